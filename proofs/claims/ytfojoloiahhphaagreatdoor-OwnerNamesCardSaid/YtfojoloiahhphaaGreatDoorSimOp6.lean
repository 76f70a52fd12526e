import Derived.Test.YtfojoloiahhphaaGreatDoorSimOp5
/- Sim, part 12: append, copy, clear. -/
namespace Sim
open Go

/-- The clean memory without a block. -/
noncomputable def St.drop (st : St) (b : Bp) : St := ⟨st.mem.put b none, st.next⟩

noncomputable def pAppend (e size bytes : Nat) (s : CV) (src : Option (Nat × Segs CV)) (st : St) : OR :=
  match s, src with
  | .nilslice, some (n, t) => bsel (Nat.beq n 0) (.ok .nilslice st)
      (bsel (Bool.and (Nat.ble 1 size) (Bool.and (Nat.ble (Nat.mul n bytes) 140737488355328) (Nat.ble n 140737488355328)))
        (forceB st.next.succ fun nx => t.force fun t => .ok (.slice st.next 0 n n size) ⟨st.mem.put st.next (some (.cells t e true)), nx⟩) .bad)
  | .slice b off len cap grow, some (n, t) =>
    bsel (Nat.beq n 0) (bsel (Nat.ble len cap) (.ok (.slice b off len cap grow) st) .bad)
      (forceN (Nat.add len n) fun need =>
        bsel (Nat.ble need cap)
          (match st.mem.get b with
          | some (.cells s ty g) => bsel (oneCells t) (Option.rec .bad (fun s' => .ok (.slice b off need cap grow) ⟨st.mem.put b (some (.cells s' ty g)), st.next⟩) (s.write (Nat.add off (Nat.mul len size)) t)) .bad
          | _ => .bad)
          (bsel (Bool.and (Nat.ble 1 size) (Bool.and (Nat.ble (Nat.mul need bytes) 140737488355328) (Nat.ble need 140737488355328)))
            (match st.mem.get b with
            | some (.cells s ty _) =>
              (match s.extract off (Nat.mul len size) with
              | some olds => forceB st.next.succ fun nx => (olds.app t).force fun l =>
                  bsel (Nat.beq grow 0) (.ok (.slice st.next 0 need need size) ⟨st.mem.put st.next (some (.cells l e true)), nx⟩)
                    (bsel (Bool.and (Nat.beq off 0) (Bool.and (Nat.beq grow size) (Bool.and (Nat.beq ty e) (Bool.and (oneCells t) (Nat.ble 1 cap)))))
                      (.ok (.slice st.next 0 need need size) ⟨(st.mem.put b none).put st.next (some (.cells l e true)), nx⟩) .bad)
              | none => .bad)
            | _ => .bad) .bad))
  | _, _ => .bad

section
variable {P : Program} {ρ : Ren} {st st' : St} {w : World} {v : CV}

theorem After.drop (h : WR ρ st w) (b : Bp) : After ρ st w ρ (st.drop b) w := by
  have hold : ∀ q blk, (st.drop b).mem.get q = some blk → st.mem.get q = some blk := fun q blk hq => by
    by_cases e : q = b
    · subst e; simp only [St.drop, PT.get_put_same] at hq; cases hq
    · simpa only [St.drop, PT.get_put_ne _ _ _ _ e] using hq
  exact ⟨⟨fun q blk r sz hq => h.at' q blk r sz (hold q blk hq), fun q q' blk blk' r s s' h1 h2 => h.inj q q' blk blk' r s s' (hold q blk h1) (hold q' blk' h2), h.fresh, h.glob.sub fun q blk r sz h1 _ => ⟨blk, hold q blk h1⟩⟩,
    fun _ _ h => h, fun _ _ h => h, Nat.le_refl _, fun q blk _ sz h1 h2 => .inl ⟨q, blk, sz, hold q blk h1, h2⟩, fun _ _ _ => rfl, Nat.le_refl _, rfl, rfl⟩

/-- What the model does where a new row is wanted. -/
theorem run_appCore_grow {e size n need sLen sCap : Nat} {zeros : Bool} {appended : Sem (Array Value)} {base : Option Addr} {s x : Value} {i : TypeInfo} {z' : Value} {vs olds : List Value} (hn : need = sLen + n) (hgt : sCap < need)
    (h63 : need ≤ 140737488355328) (hb : need * i.bytes ≤ 140737488355328) (hi : P.info? e = some i) (hz : i.zero = some z') (ha : ∀ w1 : World, w1.heap = w.heap → appended.run P w1 = .ok vs.toArray w1)
    (ho : ∀ w1 : World, w1.heap = w.heap → (Builtin.firstCells size sLen s).run P w1 = .ok olds.toArray w1) :
    (appCore e size zeros n appended base sLen sCap s x).run P w =
      .ok (.slice (some ⟨w.heap.size, 0, none⟩) need (grownCap w need sCap e))
        { w with drawn := w.drawn + 1, heap := w.heap.push (.cells (olds.toArray ++ vs.toArray ++ Builtin.zeroCells z'.cells (grownCap w need sCap e - need)) e) } := by
  subst hn
  have h1 : ¬ (sLen + n ≤ sCap) := by omega
  have hmax : IntKind.i64.max = 9223372036854775807 := by decide
  have h2 : ¬ (((sLen + n : Nat) : Int) > IntKind.i64.max) := by rw [hmax]; omega
  have h3 : ¬ (Builtin.nextslicecap (sLen + n) sCap * i.bytes > 2 ^ 48) := by
    have := growslice_fits (bytes := i.bytes) hgt hb
    exact fun h => absurd (Nat.lt_of_lt_of_le h this) (by decide)
  have h4 := ha { w with drawn := w.drawn + 1 } rfl
  have h5 := ho { w with drawn := w.drawn + 1 } rfl
  simp only [appCore, Sem.run_ite, if_neg h1, Sem.run_bind, typeInfo, run_program, Result.andThen_ok, hi, Sem.run_pure, h2, false_and, if_false, if_neg h3, run_choose, Question.forced, Bool.false_eq_true, run_askRoom, h4, h5, zeroValue, hz, newRow, run_newObj]
  rfl

theorem growCells (z' : Value) (k : Nat) : (Builtin.zeroCells z'.cells k).size = k * z'.cells.size := by simp [Builtin.zeroCells]

theorem grownCap_le (w : World) (need old : Nat) (e : TypeId) : need ≤ grownCap w need old e := by show need ≤ need + _; omega

/-- The new row of a growing append, in the clean memory. -/
theorem After.grown {e size need sCap : Nat} {z' : Value} {l : Segs CV} {vs : List Value} (hw : WR ρ st w) (hl : VRs ρ (row l) vs) (hlen : vs.length = need * size) (hsz : z'.cells.size = size) (h1 : 1 ≤ size) :
    ∃ ρ', VR ρ' (.slice st.next 0 need need size) (.slice (some ⟨w.heap.size, 0, none⟩) need (grownCap w need sCap e)) ∧
      After ρ st w ρ' ⟨st.mem.put st.next (some (.cells l e true)), st.next.succ⟩ { w with drawn := w.drawn + 1, heap := w.heap.push (.cells (vs.toArray ++ Builtin.zeroCells z'.cells (grownCap w need sCap e - need)) e) } := by
  have hcap := grownCap_le w need sCap e
  have hne : ∀ b x, ρ b = some x → b ≠ st.next := fun b x hx e => by have := hw.fresh b x hx; rw [e] at this; omega
  have hls : l.size = vs.length := by rw [← row_length, hl.len]
  have hsize : (vs.toArray ++ Builtin.zeroCells z'.cells (grownCap w need sCap e - need)).size = grownCap w need sCap e * size := by
    rw [Array.size_append, growCells, hsz, List.size_toArray, hlen, ← Nat.add_mul]; congr 1; omega
  have hb := BR.cells (ρ := ρ) l e true (vs.toArray ++ Builtin.zeroCells z'.cells (grownCap w need sCap e - need)) 0 0 (by
      rw [hsize, hls, hlen]; exact Nat.mul_le_mul_right _ hcap) (by
      rw [hls, Array.toList_append, List.take_left' (by simp)]; exact hl) (by omega) (by intros; omega)
  have hle : ρ.le (ρ.set st.next (w.heap.size, grownCap w need sCap e * size)) := fun b _ hr => by rw [Ren.set_ne _ _ _ _ (hne b _ hr)]; exact hr
  have ha := After.new (hw.heap_eq (w' := { w with drawn := w.drawn + 1 }) rfl) (sz := grownCap w need sCap e * size) ((hsize ▸ hb).mono hle)
  refine ⟨_, .sliceG _ 0 0 need need (grownCap w need sCap e) size _ _ ha.2 h1 (Nat.le_refl _) hcap (fun _ => rfl) (by omega), (After.draw hw (w.drawn + 1)).trans ha.1⟩

theorem Segs.extract_row {s t : Segs CV} {off n : Nat} (h : s.extract off n = some t) : row t = ((row s).drop off).take n := (Segs.extract_some h).2 byteV

theorem run_appCore_room {e size n sLen sCap : Nat} {zeros : Bool} {appended : Sem (Array Value)} {a : Addr} {s x : Value} {vs : List Value} {w' : World} (hle : sLen + n ≤ sCap)
    (ha : appended.run P w = .ok vs.toArray w) (hs : (storeCells (a.add (sLen * size)) vs).run P w = .ok () w') :
    (appCore e size zeros n appended (some a) sLen sCap s x).run P w = .ok (.slice (some a) (sLen + n) sCap) w' := by
  simp only [appCore, if_pos hle, Sem.run_bind, ha, Result.andThen_ok, hs, Sem.run_pure]

theorem pAppend_sound {k : SrcK} {t u ty e size bytes : Nat} {i : TypeInfo} {z : Segs CV} {z' : Value} {s x : CV} {s' x' : Value} (h : pAppend e size bytes s (srcOf k size z x st) st = .ok v st') (hw : WR ρ st w) (hs : VR ρ s s') (hx : VR ρ x x')
    (hf : srcFits P k u size) (hu : P.underlying t = some (.slice e)) (hi : P.info? e = some i) (hz : i.zero = some z') (hsi : i.size = size) (hsz : z'.cells.size = size) (hzz : ∀ ρ, VRs ρ (row z) z'.cells.toList) (hb : i.bytes = bytes) (hb2 : k = .zeros → bytes ≤ 256) :
    DoesV P (Builtin.append_ #[t, u] ty #[s', x']) ρ st w v st' := by
  unfold pAppend at h
  split at h
  · -- onto nil
    rename_i n tt hsrc
    obtain ⟨vs, zeros, appended, g1, g2, g3, g4⟩ := src_sound (P := P) (w := w) (ty := ty) hsrc hw hx hf hu hi hz hsi hsz hzz (fun hk => by rw [hb]; exact hb2 hk)
    cases hs
    simp only [bsel_eq, Bool.and_eq_true, Nat.beq_eq, Nat.ble_eq, forceB_eq, Segs.force_eq] at h
    split at h
    · rename_i hn
      subst hn
      cases h
      refine DoesV.still hw ?_ .nilslice
      rw [g4]
      simp only [appCore, Nat.add_zero, Nat.le_refl, if_true, Sem.run_bind, g3 w rfl, Result.andThen_ok, Sem.run_pure]
    · rename_i hn
      split at h
      · rename_i hc
        cases h
        obtain ⟨c1, c2, c3⟩ := hc
        have c2' : n * i.bytes ≤ 140737488355328 := by rw [hb]; exact c2
        have hrun := run_appCore_grow (P := P) (w := w) (e := e) (size := size) (n := n) (need := n) (sLen := 0) (sCap := 0) (zeros := zeros) (base := none) (s := .slice none 0 0) (x := x') (olds := []) (by omega) (by omega) c3 c2' hi hz g3 (fun w1 _ => by simp [Builtin.firstCells])
        obtain ⟨ρ', k1, k2⟩ := After.grown (e := e) (sCap := 0) hw g1 g2 hsz c1
        refine ⟨_, _, ρ', by rw [g4, hrun], k1, ?_⟩
        simpa using k2
      · cases h
  · rename_i b off len cap grow n tt hsrc
    obtain ⟨vs, zeros, appended, g1, g2, g3, g4⟩ := src_sound (P := P) (w := w) (ty := ty) hsrc hw hx hf hu hi hz hsi hsz hzz (fun hk => by rw [hb]; exact hb2 hk)
    obtain ⟨r, sz, off', cap', rfl, hr, c1, c2, c3, c4⟩ := hs.slice_inv
    have hvt : tt.size = n * size := by rw [← row_length, g1.len, g2]
    simp only [bsel_eq, Nat.beq_eq, forceN_eq] at h
    split at h
    · -- nothing
      rename_i hn
      subst hn
      split at h
      · rename_i hle
        rw [Nat.ble_eq] at hle
        cases h
        have hv : vs = [] := by apply List.length_eq_zero_iff.1; rw [g2]; omega
        subst hv
        refine DoesV.still hw ?_ hs
        rw [g4, run_appCore_room (by omega) (g3 w rfl) rfl]; rfl
      · cases h
    · rename_i hn
      split at h
      · -- there is room
        rename_i hle
        rw [Nat.ble_eq] at hle
        have hle' : len + n ≤ cap := hle
        have ho : off' = off := c1 (by omega)
        subst ho
        split at h
        · rename_i sg tg gg hm
          split at h
          · rename_i hone
            cases hwr : sg.write (Nat.add off' (Nat.mul len size)) tt with
            | none => rw [hwr] at h; cases h
            | some s2 =>
              rw [hwr] at h; cases h
              obtain ⟨w', k1, k2⟩ := After.write (P := P) hw hm hr hwr g1 hone
              refine ⟨_, w', ρ, by rw [g4, run_appCore_room (by omega) (g3 w rfl) (by rw [addr_add]; exact k1)], ?_, k2⟩
              show VR ρ (.slice b off' (len + n) cap grow) _
              by_cases hg : grow = 0
              · obtain ⟨e1, _⟩ := c3 hg
                subst hg; subst e1; exact .slice _ _ _ _ r sz hr
              · obtain ⟨d1, d2⟩ := c4 (by omega)
                exact .sliceG _ _ off' _ _ cap' grow r sz hr (by omega) hle' c2 (fun _ => rfl) d1
          · cases h
        · cases h
      · rename_i hle
        rw [Nat.ble_eq] at hle
        have hle' : ¬ len + n ≤ cap := hle
        split at h
        · rename_i hc
          simp only [Bool.and_eq_true, Nat.ble_eq] at hc
          obtain ⟨d1, d2, d3⟩ := hc
          have d2' : (len + n) * i.bytes ≤ 140737488355328 := by rw [hb]; exact d2
          have d3' : len + n ≤ 140737488355328 := d3
          split at h
          · rename_i sg tg gg hm
            split at h
            · rename_i olds hol
              rw [forceB_eq, Segs.force_eq] at h
              obtain ⟨c, lo, hi', e1, e2, e3, e4, e5⟩ := hw.row hm hr
              have hol1 := (Segs.extract_some hol).1
              have hol2 := Segs.extract_row hol
              have hol1' : off + len * size ≤ sg.size := hol1
              have hln : len * size + n * size = (len + n) * size := (Nat.add_mul _ _ _).symm
              split at h
              · -- the capacity was known: a new row, the old one stays
                rename_i hg
                have hg : grow = 0 := by simpa using hg
                cases h
                obtain ⟨f1, f2⟩ := c3 hg
                subst f1; subst f2
                have hvo : VRs ρ (row (olds.app tt)) ((c.toList.drop off').take (len * size) ++ vs) := by
                  rw [row, Segs.cells_app]
                  refine VRs.app ?_ g1
                  rw [show Segs.cells byteV olds = ((row sg).drop off').take (len * size) from hol2]
                  have ee : (c.toList.drop off').take (len * size) = ((c.toList.take sg.size).drop off').take (len * size) := by
                    rw [List.drop_take, List.take_take, Nat.min_eq_left (by omega)]
                  rw [ee]; exact (e4.drop off').take _
                have hlen : ((c.toList.drop off').take (len * size) ++ vs).length = (len + n) * size := by
                  rw [List.length_append, List.length_take, List.length_drop, Array.length_toList, g2]; omega
                have hrun := run_appCore_grow (P := P) (w := w) (e := e) (size := size) (n := n) (need := len + n) (sLen := len) (sCap := cap') (zeros := zeros) (base := some ⟨r, off', none⟩) (s := .slice (some ⟨r, off', none⟩) len cap') (x := x') (olds := (c.toList.drop off').take (len * size)) rfl (by omega) d3' d2' hi hz g3
                  (fun w1 hw1 => run_loadCells_row P w1 r off' (len * size) c tg (lo, hi') (by rw [hw1]; exact e1) (by omega))
                obtain ⟨ρ', k1, k2⟩ := After.grown (e := e) (sCap := cap') hw hvo hlen hsz d1
                refine ⟨_, _, ρ', by rw [g4, hrun], k1, ?_⟩
                have : (((c.toList.drop off').take (len * size)).toArray ++ vs.toArray) = ((c.toList.drop off').take (len * size) ++ vs).toArray := by simp
                rw [this]; exact k2
              · split at h
                · -- it was not known: the old row is given up
                  rename_i hg0 hg
                  have hg0 : grow ≠ 0 := by simpa using hg0
                  simp only [Bool.and_eq_true, Nat.beq_eq, Nat.ble_eq] at hg
                  obtain ⟨rfl, rfl, rfl, hone, hcap⟩ := hg
                  cases h
                  obtain ⟨f1, f2⟩ := c4 (by omega)
                  have ho : off' = 0 := c1 (by omega)
                  subst ho
                  have hvo : VRs ρ (row (olds.app tt)) (c.toList.take (len * grow) ++ vs) := by
                    rw [row, Segs.cells_app]
                    refine VRs.app ?_ g1
                    rw [show Segs.cells byteV olds = ((row sg).drop 0).take (len * grow) from hol2, List.drop_zero]
                    have ee : c.toList.take (len * grow) = (c.toList.take sg.size).take (len * grow) := by
                      rw [List.take_take, Nat.min_eq_left (by omega)]
                    rw [ee]; exact e4.take _
                  have hlen : (c.toList.take (len * grow) ++ vs).length = (len + n) * grow := by
                    rw [List.length_append, List.length_take, Array.length_toList, g2]; omega
                  by_cases hroom : len + n ≤ cap'
                  · have hfit : (len + n) * grow ≤ sz := Nat.le_trans (Nat.mul_le_mul_right _ hroom) (by omega)
                    have hone' : ∀ v ∈ vs, v.oneCell' = true := fun v hm' => by
                      obtain ⟨j, hj, rfl⟩ := List.getElem_of_mem hm'
                      have : j < (row tt).length := g1.len ▸ hj
                      exact oneCell_real (g1.at' j (row tt)[j] _ (by simp) (by simp)) (oneCells_row tt hone _ (List.getElem_mem _))
                    have hst := run_storeCells_row P r (0 + len * grow) tg lo hi' vs 0 c w e1 e5 (by rw [g2]; omega) hone'
                    have hnew := setRow_heap w r c (c.toList.take (0 + len * grow + 0) ++ vs ++ c.toList.drop (0 + len * grow + 0 + vs.length)).toArray tg (lo, hi') e1
                    have hcs : (c.toList.take (0 + len * grow + 0) ++ vs ++ c.toList.drop (0 + len * grow + 0 + vs.length)).toArray.size = sz := by
                      simp only [List.size_toArray, List.length_append, List.length_take, List.length_drop, Array.length_toList]; omega
                    have hne : ∀ b x, ρ b = some x → b ≠ st.next := fun b x hx e => by have := hw.fresh b x hx; rw [e] at this; omega
                    have hle2 : ρ.le (ρ.set st.next (r, sz)) := fun q _ hq => by rw [Ren.set_ne _ _ _ _ (hne q _ hq)]; exact hq
                    have hls : (olds.app tt).size = (len + n) * grow := by rw [← row_length, hvo.len, hlen]
                    have hbr := BR.cells (ρ := ρ) (olds.app tt) tg true (c.toList.take (0 + len * grow + 0) ++ vs ++ c.toList.drop (0 + len * grow + 0 + vs.length)).toArray lo hi' (by rw [hcs, hls]; exact hfit)
                      (by
                        rw [hls, show (c.toList.take (0 + len * grow + 0) ++ vs ++ c.toList.drop (0 + len * grow + 0 + vs.length)).toArray.toList = c.toList.take (0 + len * grow + 0) ++ vs ++ c.toList.drop (0 + len * grow + 0 + vs.length) from rfl]
                        rw [List.take_left' (by simpa using hlen)]
                        simpa using hvo) (by rw [hcs]; rw [e2] at e5; exact e5) (fun h => by cases h)
                    rw [hcs] at hbr
                    have ha := After.move hw hm hr hnew (hbr.mono hle2) (fun k hk => setRow_other w r _ k hk) (setRow_size w r _) rfl rfl
                    refine ⟨_, _, _, by rw [g4, run_appCore_room hroom (g3 w rfl) (by rw [addr_add]; exact hst)], ?_, ha⟩
                    exact .sliceG _ _ 0 _ _ cap' grow r sz (Ren.set_same _ _ _) (by omega) (Nat.le_refl _) hroom (fun _ => rfl) (by omega)
                  · have hrun := run_appCore_grow (P := P) (w := w) (e := tg) (size := grow) (n := n) (need := len + n) (sLen := len) (sCap := cap') (zeros := zeros) (base := some ⟨r, 0, none⟩) (s := .slice (some ⟨r, 0, none⟩) len cap') (x := x') (olds := c.toList.take (len * grow)) rfl (by omega) d3' d2' hi hz g3
                      (fun w1 hw1 => by
                        have := run_loadCells_row P w1 r 0 (len * grow) c tg (lo, hi') (by rw [hw1]; exact e1) (by omega)
                        rw [List.drop_zero] at this; exact this)
                    have hd := After.drop hw b
                    obtain ⟨ρ', k1, k2⟩ := After.grown (st := st.drop b) (e := tg) (sCap := cap') hd.wr hvo hlen hsz d1
                    refine ⟨_, _, ρ', by rw [g4, hrun], k1, ?_⟩
                    have : ((c.toList.take (len * grow)).toArray ++ vs.toArray) = (c.toList.take (len * grow) ++ vs).toArray := by simp
                    rw [this]; exact hd.trans k2
                · cases h
            · cases h
          · cases h
        · cases h
  · cases h
end
end Sim
