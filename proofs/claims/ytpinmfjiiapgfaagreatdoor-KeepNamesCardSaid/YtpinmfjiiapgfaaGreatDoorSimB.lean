import Derived.Test.YtpinmfjiiapgfaaGreatDoorSimA
import Derived.Scope
import Derived.LoopN
/- Sim, part 12: append, copy, clear. -/
namespace Sim
open Go

/-- The clean memory without a block. -/
noncomputable def St.drop (st : St) (b : Bp) : St := ⟨st.mem.put b none, st.next⟩

noncomputable def pAppend (e size bytes : Nat) (s : CV) (src : Option (Nat × Segs CV)) (st : St) : OR :=
  match s, src with
  | .nilslice, some (n, t) => bsel (Nat.beq n 0) (.ok .nilslice st)
      (bsel (Bool.and (Nat.ble 1 size) (Bool.and (Nat.ble (Nat.mul n bytes) 140737488355328) (Nat.ble n 140737488355328)))
        (forceB st.next.succ fun nx => t.force fun t => .ok (.slice st.next 0 n n size) ⟨st.mem.put st.next (some (.cells t e true)), nx⟩) .bad)
  | .slice b off len cap grow, some (n, t) =>
    bsel (Nat.beq n 0) (bsel (Nat.ble len cap) (.ok (.slice b off len cap grow) st) .bad)
      (forceN (Nat.add len n) fun need =>
        bsel (Nat.ble need cap)
          (match st.mem.get b with
          | some (.cells s ty g) => bsel (oneCells t) (Option.rec .bad (fun s' => .ok (.slice b off need cap grow) ⟨st.mem.put b (some (.cells s' ty g)), st.next⟩) (s.write (Nat.add off (Nat.mul len size)) t)) .bad
          | _ => .bad)
          (bsel (Bool.and (Nat.ble 1 size) (Bool.and (Nat.ble (Nat.mul need bytes) 140737488355328) (Nat.ble need 140737488355328)))
            (match st.mem.get b with
            | some (.cells s ty _) =>
              (match s.extract off (Nat.mul len size) with
              | some olds => forceB st.next.succ fun nx => (olds.app t).force fun l =>
                  bsel (Nat.beq grow 0) (.ok (.slice st.next 0 need need size) ⟨st.mem.put st.next (some (.cells l e true)), nx⟩)
                    (bsel (Bool.and (Nat.beq off 0) (Bool.and (Nat.beq grow size) (Bool.and (Nat.beq ty e) (Bool.and (oneCells t) (Nat.ble 1 cap)))))
                      (.ok (.slice st.next 0 need need size) ⟨(st.mem.put b none).put st.next (some (.cells l e true)), nx⟩) .bad)
              | none => .bad)
            | _ => .bad) .bad))
  | _, _ => .bad

section
variable {P : Program} {ρ : Ren} {st st' : St} {w : World} {v : CV}

theorem After.drop (h : WR ρ st w) (b : Bp) : After ρ st w ρ (st.drop b) w := by
  have hold : ∀ q blk, (st.drop b).mem.get q = some blk → st.mem.get q = some blk := fun q blk hq => by
    by_cases e : q = b
    · subst e; simp only [St.drop, PT.get_put_same] at hq; cases hq
    · simpa only [St.drop, PT.get_put_ne _ _ _ _ e] using hq
  exact ⟨⟨fun q blk r sz hq => h.at' q blk r sz (hold q blk hq), fun q q' blk blk' r s s' h1 h2 => h.inj q q' blk blk' r s s' (hold q blk h1) (hold q' blk' h2), h.fresh, h.glob.sub fun q blk r sz h1 _ => ⟨blk, hold q blk h1⟩⟩,
    fun _ _ h => h, fun _ _ h => h, Nat.le_refl _, fun q blk _ sz h1 h2 => .inl ⟨q, blk, sz, hold q blk h1, h2⟩, fun _ _ _ => rfl, Nat.le_refl _, rfl, rfl⟩

/-- What the model does where a new row is wanted. -/
theorem run_appCore_grow {e size n need sLen sCap : Nat} {zeros : Bool} {appended : Sem (Array Value)} {base : Option Addr} {s x : Value} {i : TypeInfo} {z' : Value} {vs olds : List Value} (hn : need = sLen + n) (hgt : sCap < need)
    (h63 : need ≤ 140737488355328) (hb : need * i.bytes ≤ 140737488355328) (hi : P.info? e = some i) (hz : i.zero = some z') (ha : ∀ w1 : World, w1.heap = w.heap → appended.run P w1 = .ok vs.toArray w1)
    (ho : ∀ w1 : World, w1.heap = w.heap → (Builtin.firstCells size sLen s).run P w1 = .ok olds.toArray w1) :
    (appCore e size zeros n appended base sLen sCap s x).run P w =
      .ok (.slice (some ⟨w.heap.size, 0, none⟩) need (grownCap w need sCap e))
        { w with drawn := w.drawn + 1, heap := w.heap.push (.cells (olds.toArray ++ vs.toArray ++ Builtin.zeroCells z'.cells (grownCap w need sCap e - need)) e) } := by
  subst hn
  have h1 : ¬ (sLen + n ≤ sCap) := by omega
  have hmax : IntKind.i64.max = 9223372036854775807 := by decide
  have h2 : ¬ (((sLen + n : Nat) : Int) > IntKind.i64.max) := by rw [hmax]; omega
  have h3 : ¬ (Builtin.nextslicecap (sLen + n) sCap * i.bytes > 2 ^ 48) := by
    have := growslice_fits (bytes := i.bytes) hgt hb
    exact fun h => absurd (Nat.lt_of_lt_of_le h this) (by decide)
  have h4 := ha { w with drawn := w.drawn + 1 } rfl
  have h5 := ho { w with drawn := w.drawn + 1 } rfl
  simp only [appCore, Sem.run_ite, if_neg h1, Sem.run_bind, typeInfo, run_program, Result.andThen_ok, hi, Sem.run_pure, h2, false_and, if_false, if_neg h3, run_choose, Question.forced, Bool.false_eq_true, run_askRoom, h4, h5, zeroValue, hz, newRow, run_newObj]
  rfl

theorem growCells (z' : Value) (k : Nat) : (Builtin.zeroCells z'.cells k).size = k * z'.cells.size := by simp [Builtin.zeroCells]

theorem grownCap_le (w : World) (need old : Nat) (e : TypeId) : need ≤ grownCap w need old e := by show need ≤ need + _; omega

/-- The new row of a growing append, in the clean memory. -/
theorem After.grown {e size need sCap : Nat} {z' : Value} {l : Segs CV} {vs : List Value} (hw : WR ρ st w) (hl : VRs ρ (row l) vs) (hlen : vs.length = need * size) (hsz : z'.cells.size = size) (h1 : 1 ≤ size) :
    ∃ ρ', VR ρ' (.slice st.next 0 need need size) (.slice (some ⟨w.heap.size, 0, none⟩) need (grownCap w need sCap e)) ∧
      After ρ st w ρ' ⟨st.mem.put st.next (some (.cells l e true)), st.next.succ⟩ { w with drawn := w.drawn + 1, heap := w.heap.push (.cells (vs.toArray ++ Builtin.zeroCells z'.cells (grownCap w need sCap e - need)) e) } := by
  have hcap := grownCap_le w need sCap e
  have hne : ∀ b x, ρ b = some x → b ≠ st.next := fun b x hx e => by have := hw.fresh b x hx; rw [e] at this; omega
  have hls : l.size = vs.length := by rw [← row_length, hl.len]
  have hsize : (vs.toArray ++ Builtin.zeroCells z'.cells (grownCap w need sCap e - need)).size = grownCap w need sCap e * size := by
    rw [Array.size_append, growCells, hsz, List.size_toArray, hlen, ← Nat.add_mul]; congr 1; omega
  have hb := BR.cells (ρ := ρ) l e true (vs.toArray ++ Builtin.zeroCells z'.cells (grownCap w need sCap e - need)) 0 0 (by
      rw [hsize, hls, hlen]; exact Nat.mul_le_mul_right _ hcap) (by
      rw [hls, Array.toList_append, List.take_left' (by simp)]; exact hl) (by omega) (by intros; omega)
  have hle : ρ.le (ρ.set st.next (w.heap.size, grownCap w need sCap e * size)) := fun b _ hr => by rw [Ren.set_ne _ _ _ _ (hne b _ hr)]; exact hr
  have ha := After.new (hw.heap_eq (w' := { w with drawn := w.drawn + 1 }) rfl) (sz := grownCap w need sCap e * size) ((hsize ▸ hb).mono hle)
  refine ⟨_, .sliceG _ 0 0 need need (grownCap w need sCap e) size _ _ ha.2 h1 (Nat.le_refl _) hcap (fun _ => rfl) (by omega), (After.draw hw (w.drawn + 1)).trans ha.1⟩

theorem Segs.extract_row {s t : Segs CV} {off n : Nat} (h : s.extract off n = some t) : row t = ((row s).drop off).take n := (Segs.extract_some h).2 byteV

theorem run_appCore_room {e size n sLen sCap : Nat} {zeros : Bool} {appended : Sem (Array Value)} {a : Addr} {s x : Value} {vs : List Value} {w' : World} (hle : sLen + n ≤ sCap)
    (ha : appended.run P w = .ok vs.toArray w) (hs : (storeCells (a.add (sLen * size)) vs).run P w = .ok () w') :
    (appCore e size zeros n appended (some a) sLen sCap s x).run P w = .ok (.slice (some a) (sLen + n) sCap) w' := by
  simp only [appCore, if_pos hle, Sem.run_bind, ha, Result.andThen_ok, hs, Sem.run_pure]

theorem pAppend_sound {k : SrcK} {t u ty e size bytes : Nat} {i : TypeInfo} {z : Segs CV} {z' : Value} {s x : CV} {s' x' : Value} (h : pAppend e size bytes s (srcOf k size z x st) st = .ok v st') (hw : WR ρ st w) (hs : VR ρ s s') (hx : VR ρ x x')
    (hf : srcFits P k u size) (hu : P.underlying t = some (.slice e)) (hi : P.info? e = some i) (hz : i.zero = some z') (hsi : i.size = size) (hsz : z'.cells.size = size) (hzz : ∀ ρ, VRs ρ (row z) z'.cells.toList) (hb : i.bytes = bytes) (hb2 : k = .zeros → bytes ≤ 256) :
    DoesV P (Builtin.append_ #[t, u] ty #[s', x']) ρ st w v st' := by
  unfold pAppend at h
  split at h
  · -- onto nil
    rename_i n tt hsrc
    obtain ⟨vs, zeros, appended, g1, g2, g3, g4⟩ := src_sound (P := P) (w := w) (ty := ty) hsrc hw hx hf hu hi hz hsi hsz hzz (fun hk => by rw [hb]; exact hb2 hk)
    cases hs
    simp only [bsel_eq, Bool.and_eq_true, Nat.beq_eq, Nat.ble_eq, forceB_eq, Segs.force_eq] at h
    split at h
    · rename_i hn
      subst hn
      cases h
      refine DoesV.still hw ?_ .nilslice
      rw [g4]
      simp only [appCore, Nat.add_zero, Nat.le_refl, if_true, Sem.run_bind, g3 w rfl, Result.andThen_ok, Sem.run_pure]
    · rename_i hn
      split at h
      · rename_i hc
        cases h
        obtain ⟨c1, c2, c3⟩ := hc
        have c2' : n * i.bytes ≤ 140737488355328 := by rw [hb]; exact c2
        have hrun := run_appCore_grow (P := P) (w := w) (e := e) (size := size) (n := n) (need := n) (sLen := 0) (sCap := 0) (zeros := zeros) (base := none) (s := .slice none 0 0) (x := x') (olds := []) (by omega) (by omega) c3 c2' hi hz g3 (fun w1 _ => by simp [Builtin.firstCells])
        obtain ⟨ρ', k1, k2⟩ := After.grown (e := e) (sCap := 0) hw g1 g2 hsz c1
        refine ⟨_, _, ρ', by rw [g4, hrun], k1, ?_⟩
        simpa using k2
      · cases h
  · rename_i b off len cap grow n tt hsrc
    obtain ⟨vs, zeros, appended, g1, g2, g3, g4⟩ := src_sound (P := P) (w := w) (ty := ty) hsrc hw hx hf hu hi hz hsi hsz hzz (fun hk => by rw [hb]; exact hb2 hk)
    obtain ⟨r, sz, off', cap', rfl, hr, c1, c2, c3, c4⟩ := hs.slice_inv
    have hvt : tt.size = n * size := by rw [← row_length, g1.len, g2]
    simp only [bsel_eq, Nat.beq_eq, forceN_eq] at h
    split at h
    · -- nothing
      rename_i hn
      subst hn
      split at h
      · rename_i hle
        rw [Nat.ble_eq] at hle
        cases h
        have hv : vs = [] := by apply List.length_eq_zero_iff.1; rw [g2]; omega
        subst hv
        refine DoesV.still hw ?_ hs
        rw [g4, run_appCore_room (by omega) (g3 w rfl) rfl]; rfl
      · cases h
    · rename_i hn
      split at h
      · -- there is room
        rename_i hle
        rw [Nat.ble_eq] at hle
        have hle' : len + n ≤ cap := hle
        have ho : off' = off := c1 (by omega)
        subst ho
        split at h
        · rename_i sg tg gg hm
          split at h
          · rename_i hone
            cases hwr : sg.write (Nat.add off' (Nat.mul len size)) tt with
            | none => rw [hwr] at h; cases h
            | some s2 =>
              rw [hwr] at h; cases h
              obtain ⟨w', k1, k2⟩ := After.write (P := P) hw hm hr hwr g1 hone
              refine ⟨_, w', ρ, by rw [g4, run_appCore_room (by omega) (g3 w rfl) (by rw [addr_add]; exact k1)], ?_, k2⟩
              show VR ρ (.slice b off' (len + n) cap grow) _
              by_cases hg : grow = 0
              · obtain ⟨e1, _⟩ := c3 hg
                subst hg; subst e1; exact .slice _ _ _ _ r sz hr
              · obtain ⟨d1, d2⟩ := c4 (by omega)
                exact .sliceG _ _ off' _ _ cap' grow r sz hr (by omega) hle' c2 (fun _ => rfl) d1
          · cases h
        · cases h
      · rename_i hle
        rw [Nat.ble_eq] at hle
        have hle' : ¬ len + n ≤ cap := hle
        split at h
        · rename_i hc
          simp only [Bool.and_eq_true, Nat.ble_eq] at hc
          obtain ⟨d1, d2, d3⟩ := hc
          have d2' : (len + n) * i.bytes ≤ 140737488355328 := by rw [hb]; exact d2
          have d3' : len + n ≤ 140737488355328 := d3
          split at h
          · rename_i sg tg gg hm
            split at h
            · rename_i olds hol
              rw [forceB_eq, Segs.force_eq] at h
              obtain ⟨c, lo, hi', e1, e2, e3, e4, e5⟩ := hw.row hm hr
              have hol1 := (Segs.extract_some hol).1
              have hol2 := Segs.extract_row hol
              have hol1' : off + len * size ≤ sg.size := hol1
              have hln : len * size + n * size = (len + n) * size := (Nat.add_mul _ _ _).symm
              split at h
              · -- the capacity was known: a new row, the old one stays
                rename_i hg
                have hg : grow = 0 := by simpa using hg
                cases h
                obtain ⟨f1, f2⟩ := c3 hg
                subst f1; subst f2
                have hvo : VRs ρ (row (olds.app tt)) ((c.toList.drop off').take (len * size) ++ vs) := by
                  rw [row, Segs.cells_app]
                  refine VRs.app ?_ g1
                  rw [show Segs.cells byteV olds = ((row sg).drop off').take (len * size) from hol2]
                  have ee : (c.toList.drop off').take (len * size) = ((c.toList.take sg.size).drop off').take (len * size) := by
                    rw [List.drop_take, List.take_take, Nat.min_eq_left (by omega)]
                  rw [ee]; exact (e4.drop off').take _
                have hlen : ((c.toList.drop off').take (len * size) ++ vs).length = (len + n) * size := by
                  rw [List.length_append, List.length_take, List.length_drop, Array.length_toList, g2]; omega
                have hrun := run_appCore_grow (P := P) (w := w) (e := e) (size := size) (n := n) (need := len + n) (sLen := len) (sCap := cap') (zeros := zeros) (base := some ⟨r, off', none⟩) (s := .slice (some ⟨r, off', none⟩) len cap') (x := x') (olds := (c.toList.drop off').take (len * size)) rfl (by omega) d3' d2' hi hz g3
                  (fun w1 hw1 => run_loadCells_row P w1 r off' (len * size) c tg (lo, hi') (by rw [hw1]; exact e1) (by omega))
                obtain ⟨ρ', k1, k2⟩ := After.grown (e := e) (sCap := cap') hw hvo hlen hsz d1
                refine ⟨_, _, ρ', by rw [g4, hrun], k1, ?_⟩
                have : (((c.toList.drop off').take (len * size)).toArray ++ vs.toArray) = ((c.toList.drop off').take (len * size) ++ vs).toArray := by simp
                rw [this]; exact k2
              · split at h
                · -- it was not known: the old row is given up
                  rename_i hg0 hg
                  have hg0 : grow ≠ 0 := by simpa using hg0
                  simp only [Bool.and_eq_true, Nat.beq_eq, Nat.ble_eq] at hg
                  obtain ⟨rfl, rfl, rfl, hone, hcap⟩ := hg
                  cases h
                  obtain ⟨f1, f2⟩ := c4 (by omega)
                  have ho : off' = 0 := c1 (by omega)
                  subst ho
                  have hvo : VRs ρ (row (olds.app tt)) (c.toList.take (len * grow) ++ vs) := by
                    rw [row, Segs.cells_app]
                    refine VRs.app ?_ g1
                    rw [show Segs.cells byteV olds = ((row sg).drop 0).take (len * grow) from hol2, List.drop_zero]
                    have ee : c.toList.take (len * grow) = (c.toList.take sg.size).take (len * grow) := by
                      rw [List.take_take, Nat.min_eq_left (by omega)]
                    rw [ee]; exact e4.take _
                  have hlen : (c.toList.take (len * grow) ++ vs).length = (len + n) * grow := by
                    rw [List.length_append, List.length_take, Array.length_toList, g2]; omega
                  by_cases hroom : len + n ≤ cap'
                  · have hfit : (len + n) * grow ≤ sz := Nat.le_trans (Nat.mul_le_mul_right _ hroom) (by omega)
                    have hone' : ∀ v ∈ vs, v.oneCell' = true := fun v hm' => by
                      obtain ⟨j, hj, rfl⟩ := List.getElem_of_mem hm'
                      have : j < (row tt).length := g1.len ▸ hj
                      exact oneCell_real (g1.at' j (row tt)[j] _ (by simp) (by simp)) (oneCells_row tt hone _ (List.getElem_mem _))
                    have hst := run_storeCells_row P r (0 + len * grow) tg lo hi' vs 0 c w e1 e5 (by rw [g2]; omega) hone'
                    have hnew := setRow_heap w r c (c.toList.take (0 + len * grow + 0) ++ vs ++ c.toList.drop (0 + len * grow + 0 + vs.length)).toArray tg (lo, hi') e1
                    have hcs : (c.toList.take (0 + len * grow + 0) ++ vs ++ c.toList.drop (0 + len * grow + 0 + vs.length)).toArray.size = sz := by
                      simp only [List.size_toArray, List.length_append, List.length_take, List.length_drop, Array.length_toList]; omega
                    have hne : ∀ b x, ρ b = some x → b ≠ st.next := fun b x hx e => by have := hw.fresh b x hx; rw [e] at this; omega
                    have hle2 : ρ.le (ρ.set st.next (r, sz)) := fun q _ hq => by rw [Ren.set_ne _ _ _ _ (hne q _ hq)]; exact hq
                    have hls : (olds.app tt).size = (len + n) * grow := by rw [← row_length, hvo.len, hlen]
                    have hbr := BR.cells (ρ := ρ) (olds.app tt) tg true (c.toList.take (0 + len * grow + 0) ++ vs ++ c.toList.drop (0 + len * grow + 0 + vs.length)).toArray lo hi' (by rw [hcs, hls]; exact hfit)
                      (by
                        rw [hls, show (c.toList.take (0 + len * grow + 0) ++ vs ++ c.toList.drop (0 + len * grow + 0 + vs.length)).toArray.toList = c.toList.take (0 + len * grow + 0) ++ vs ++ c.toList.drop (0 + len * grow + 0 + vs.length) from rfl]
                        rw [List.take_left' (by simpa using hlen)]
                        simpa using hvo) (by rw [hcs]; rw [e2] at e5; exact e5) (fun h => by cases h)
                    rw [hcs] at hbr
                    have ha := After.move hw hm hr hnew (hbr.mono hle2) (fun k hk => setRow_other w r _ k hk) (setRow_size w r _) rfl rfl
                    refine ⟨_, _, _, by rw [g4, run_appCore_room hroom (g3 w rfl) (by rw [addr_add]; exact hst)], ?_, ha⟩
                    exact .sliceG _ _ 0 _ _ cap' grow r sz (Ren.set_same _ _ _) (by omega) (Nat.le_refl _) hroom (fun _ => rfl) (by omega)
                  · have hrun := run_appCore_grow (P := P) (w := w) (e := tg) (size := grow) (n := n) (need := len + n) (sLen := len) (sCap := cap') (zeros := zeros) (base := some ⟨r, 0, none⟩) (s := .slice (some ⟨r, 0, none⟩) len cap') (x := x') (olds := c.toList.take (len * grow)) rfl (by omega) d3' d2' hi hz g3
                      (fun w1 hw1 => by
                        have := run_loadCells_row P w1 r 0 (len * grow) c tg (lo, hi') (by rw [hw1]; exact e1) (by omega)
                        rw [List.drop_zero] at this; exact this)
                    have hd := After.drop hw b
                    obtain ⟨ρ', k1, k2⟩ := After.grown (st := st.drop b) (e := tg) (sCap := cap') hd.wr hvo hlen hsz d1
                    refine ⟨_, _, ρ', by rw [g4, hrun], k1, ?_⟩
                    have : ((c.toList.take (len * grow)).toArray ++ vs.toArray) = (c.toList.take (len * grow) ++ vs).toArray := by simp
                    rw [this]; exact hd.trans k2
                · cases h
            · cases h
          · cases h
        · cases h
  · cases h
end
end Sim

/- Sim, part 13: copy, clear, min, max, maps. -/
namespace Sim
open Go

noncomputable def lenS (x : CV) : Option Nat := match x with | .nilslice => some 0 | .slice _ _ len _ _ => some len | .str n _ => some n | _ => none
noncomputable def cellsOf (str : Bool) (size n : Nat) (x : CV) (st : St) : Option (Segs CV) :=
  bsel str (match x with | .str m a => bsel (Nat.ble n m) (some (bsel (Nat.beq n 0) .nil (.bytes n (bTake a n) .nil))) none | _ => none) (sliceCells size n x st)
/-- A row that grows into room that is known to be there. -/
noncomputable def extW (s : Segs CV) (off : Nat) (t : Segs CV) (lim : Nat) : Option (Segs CV) :=
  bsel (Bool.and (Nat.ble off s.size) (Bool.and (Nat.ble s.size (Nat.add off t.size)) (Nat.ble (Nat.add off t.size) lim))) (((s.take off).app t).force some) none
noncomputable def pCopy (str : Bool) (size : Nat) (d s : CV) (st : St) : OR :=
  match d, lenS s with
  | .nilslice, some _ => (match cellsOf str size 0 s st with | some _ => okN .i64 st 0 | none => .bad)
  | .slice b off len cap grow, some m => forceN (upto m len) fun n =>
      (match cellsOf str size n s st with
      | some t => bsel (Nat.beq n 0) (okN .i64 st 0)
        (bsel (Bool.and (oneCells t) (Bool.or (Nat.beq grow 0) (Nat.ble 1 cap)))
          (match st.mem.get b with
          | some (.cells s ty g) => Option.rec (Option.rec .bad (fun s' => okN .i64 ⟨st.mem.put b (some (.cells s' ty g)), st.next⟩ n) (extW s off t (Nat.add off (Nat.mul cap grow)))) (fun s' => okN .i64 ⟨st.mem.put b (some (.cells s' ty g)), st.next⟩ n) (s.write off t)
          | _ => .bad) .bad)
      | none => .bad)
  | _, _ => .bad

section
variable {P : Program} {ρ : Ren} {st st' : St} {w : World} {v : CV}

theorem After.grow {b : Bp} {s t s' : Segs CV} {ty : TypeId} {g : Bool} {off lim r sz : Nat} {vs : List Value} (h : WR ρ st w)
    (h1 : st.mem.get b = some (.cells s ty g)) (h2 : ρ b = some (r, sz)) (hw : extW s off t lim = some s') (hlim : lim ≤ sz) (hv : VRs ρ (row t) vs) (ho : oneCells t = true) :
    ∃ w', (storeCells ⟨r, off, none⟩ vs).run P w = .ok () w' ∧ After ρ st w ρ (st.set b (.cells s' ty g)) w' := by
  obtain ⟨c, lo, hi, e1, e2, e3, e4, e5⟩ := h.row h1 h2
  unfold extW at hw
  simp only [bsel_eq, Bool.and_eq_true, Nat.ble_eq, Segs.force_eq] at hw
  split at hw
  · rename_i hh
    obtain ⟨a1, a2, a3⟩ := hh
    have a2' : s.size ≤ off + t.size := a2
    have a3' : off + t.size ≤ lim := a3
    cases hw
    have hlen : vs.length = t.size := by rw [← hv.len, row_length]
    have hone : ∀ v ∈ vs, v.oneCell' = true := fun v hm => by
      obtain ⟨i, hi', rfl⟩ := List.getElem_of_mem hm
      have : i < (row t).length := hv.len ▸ hi'
      exact oneCell_real (hv.at' i (row t)[i] _ (by simp) (by simp)) (oneCells_row t ho _ (List.getElem_mem _))
    have hrun := run_storeCells_row P r off ty lo hi vs 0 c w e1 e5 (by omega) hone
    refine ⟨_, hrun, ?_⟩
    have hs' : ((s.take off).app t).size = off + t.size := by
      rw [← row_length, row, Segs.cells_app, Segs.cells_take, List.length_append, List.length_take, Segs.cells_length, Segs.cells_length]; omega
    have hnew := setRow_heap w r c (c.toList.take (off + 0) ++ vs ++ c.toList.drop (off + 0 + vs.length)).toArray ty (lo, hi) e1
    have hcs : (c.toList.take (off + 0) ++ vs ++ c.toList.drop (off + 0 + vs.length)).toArray.size = sz := by
      simp only [List.size_toArray, List.length_append, List.length_take, List.length_drop, Array.length_toList]; omega
    refine After.set h h1 h2 hnew ?_ (fun k hk => setRow_other w r _ k hk) (setRow_size w r _) rfl rfl
    have hb := BR.cells (ρ := ρ) ((s.take off).app t) ty g (c.toList.take (off + 0) ++ vs ++ c.toList.drop (off + 0 + vs.length)).toArray lo hi (by rw [hcs, hs']; omega) ?_ (by rw [hcs]; rw [e2] at e5; exact e5) (h.rowG h1 h2 e1)
    · rw [hcs] at hb; exact hb
    · rw [hs', row, Segs.cells_app, Segs.cells_take]
      have e : (c.toList.take (off + 0) ++ vs ++ c.toList.drop (off + 0 + vs.length)).toArray.toList.take (off + t.size) = (c.toList.take s.size).take off ++ vs := by
        simp only [Nat.add_zero]
        rw [List.take_left' (by simp only [List.length_append, List.length_take, Array.length_toList]; omega), List.take_take, Nat.min_eq_left a1]
      rw [e]
      exact (e4.take off).app hv
  · cases hw

theorem cellsOf_sound {str : Bool} {size n : Nat} {x : CV} {x' : Value} {t : Segs CV} (h : cellsOf str size n x st = some t) (hn : ∀ m, lenS x = some m → n ≤ m) (hw : WR ρ st w) (hx : VR ρ x x') (hs : str = true → size = 1) :
    ∃ vs, VRs ρ (row t) vs ∧ vs.length = n * size ∧ (Builtin.firstCells size n x').run P w = .ok vs.toArray w := by
  unfold cellsOf at h
  rw [bsel_eq] at h
  split at h
  · rename_i hstr
    have hs := hs hstr
    subst hs
    split at h
    · rename_i m a
      simp only [bsel_eq, Nat.ble_eq, Nat.beq_eq] at h
      split at h
      · rename_i hle
        cases h; cases hx
        refine ⟨((ub n a).map fun y : Nat => Value.int .u8 (y : Int)), ?_, by simp, ?_⟩
        · split
          · rename_i h0; subst h0; exact VRs.nil ρ
          · rw [bTake_eq]
            have : row (Segs.bytes n (a % 256 ^ n) .nil) = (ub n a).map byteV := by simp [row, Segs.cells, ub_mod]
            rw [this]; exact VRs.bytes ρ (ub n a)
        · simp only [Builtin.firstCells, Sem.run_pure]
          congr 1
          apply Array.ext'
          rw [strB_extract m a 0 n (by omega) hle, Nat.sub_zero, bTake_eq, bDrop_eq, Nat.pow_zero, Nat.div_one]
          rw [cell_u8, Array.toList_map, strB_toList, ub_mod, List.map_map, List.map_map]; rfl
      · cases h
    · cases h
  · obtain ⟨vs, g1, g2, g3⟩ := sliceCells_sound (P := P) h (fun e he hne => by subst he; have := hn 0 rfl; omega) hw hx
    exact ⟨vs, g1, g2, g3 w rfl⟩

theorem pCopy_sound {str : Bool} {size : Nat} {dT sT ty e : TypeId} {i : TypeInfo} {d s : CV} {d' s' : Value} (h : pCopy str size d s st = .ok v st') (hw : WR ρ st w) (hd : VR ρ d d') (hs : VR ρ s s')
    (hu : P.underlying dT = some (.slice e)) (hi : P.info? e = some i) (hsz : i.size = size) (h1 : str = true → size = 1) : DoesV P (Builtin.copy_ #[dT, sT] ty #[d', s']) ρ st w v st' := by
  have hsize : (Go.sizeOf e).run P w = .ok size w := by simp [Go.sizeOf, typeInfo, hi, hsz]
  have hlen : ∀ m, lenS s = some m → (Builtin.lenOf s').run P w = .ok m w := fun m hm => by
    unfold lenS at hm
    split at hm
    · cases hm; cases hs; rfl
    · cases hm; obtain ⟨r, sz, off', cap', rfl, _⟩ := hs.slice_inv; rfl
    · cases hm; cases hs; simp [Builtin.lenOf]
    · cases hm
  unfold pCopy at h
  split at h
  · rename_i m hm
    split at h
    · rename_i t ht
      cases h; cases hd
      obtain ⟨vs, g1, g2, g3⟩ := cellsOf_sound (P := P) ht (fun _ _ => Nat.zero_le _) hw hs h1
      refine DoesV.still hw ?_ (.int _ _)
      simp [Builtin.copy_, run_underlying hu, hlen m hm, hsize, g3, goInt]
    · cases h
  · rename_i b off len cap grow m hm
    rw [forceN_eq] at h
    obtain ⟨r, sz, off', cap', rfl, hr, c1, c2, c3, c4⟩ := hd.slice_inv
    split at h
    · rename_i t ht
      obtain ⟨vs, g1, g2, g3⟩ := cellsOf_sound (P := P) ht (fun m' hm' => by rw [hm] at hm'; cases hm'; rw [upto_eq]; exact Nat.min_le_left _ _) hw hs h1
      simp only [bsel_eq, Nat.beq_eq, Bool.and_eq_true, Bool.or_eq_true, Nat.ble_eq] at h
      have hmin : Nat.min m len = upto m len := by rw [upto_eq]
      split at h
      · rename_i h0
        cases h
        have hv : vs = [] := by apply List.length_eq_zero_iff.1; rw [g2, h0, Nat.zero_mul]
        subst hv
        refine DoesV.still hw ?_ (.int _ _)
        rw [h0] at g3
        simp [Builtin.copy_, run_underlying hu, hlen m hm, hmin, h0, hsize, g3, goInt, storeCells]
      · rename_i h0
        split at h
        · rename_i hg
          have ho : off' = off := by
            rcases hg.2 with hg | hg
            · exact (c3 hg).2
            · exact c1 (by omega)
          subst ho
          split at h
          · rename_i sg tg gg hmm
            cases hwr : sg.write off' t with
            | none =>
              rw [hwr] at h
              dsimp only at h
              cases hx : extW sg off' t (Nat.add off' (Nat.mul cap grow)) with
              | none => rw [hx] at h; cases h
              | some s2 =>
                rw [hx] at h; cases h
                by_cases hg0 : grow = 0
                · subst hg0
                  unfold extW at hx
                  simp only [bsel_eq, Bool.and_eq_true, Nat.ble_eq] at hx
                  split at hx
                  · rename_i hh
                    exfalso
                    obtain ⟨a1, a2, a3⟩ := hh
                    have a1' : off' ≤ sg.size := a1
                    have a2' : sg.size ≤ off' + t.size := a2
                    have a3' : off' + t.size ≤ off' + cap * 0 := a3
                    have hw2 : sg.write off' t ≠ none := by
                      unfold Segs.write
                      simp only [bsel_eq, Nat.ble_eq, Segs.force_eq]
                      rw [if_pos (show off'.add t.size ≤ sg.size by show off' + t.size ≤ sg.size; omega)]
                      simp
                    exact hw2 hwr
                  · cases hx
                · obtain ⟨f1, f2⟩ := c4 (by omega)
                  have hlim : Nat.add off' (Nat.mul cap grow) ≤ sz := by
                    show off' + cap * grow ≤ sz
                    have := Nat.mul_le_mul_right grow c2
                    omega
                  obtain ⟨w', k1, k2⟩ := After.grow (P := P) hw hmm hr hx hlim g1 hg.1
                  refine ⟨_, w', ρ, ?_, .int .i64 _, k2⟩
                  simp [Builtin.copy_, run_underlying hu, hlen m hm, hmin, hsize, g3, k1, goInt]
            | some s2 =>
              rw [hwr] at h; cases h
              obtain ⟨w', k1, k2⟩ := After.write (P := P) hw hmm hr hwr g1 hg.1
              refine ⟨_, w', ρ, ?_, .int .i64 _, k2⟩
              simp [Builtin.copy_, run_underlying hu, hlen m hm, hmin, hsize, g3, k1, goInt]
          · cases h
        · cases h
    · cases h
  · cases h

/- clear -/
noncomputable def pClear (z : Segs CV) (x : CV) (st : St) : OR :=
  match x with
  | .nilslice => .ok .undef st
  | .slice b off len cap grow => bsel (Nat.beq len 0) (.ok .undef st)
      (bsel (Bool.or (Nat.beq grow 0) (Nat.ble 1 cap))
        (match st.mem.get b with
        | some (.cells s ty g) => (fun t => bsel (oneCells t) (Option.rec .bad (fun s' => .ok .undef ⟨st.mem.put b (some (.cells s' ty g)), st.next⟩) (s.write off t)) .bad) (repS len z)
        | _ => .bad) .bad)
  | _ => .bad
theorem pClear_sound {t ty e : TypeId} {i : TypeInfo} {z : Segs CV} {z' : Value} {x : CV} {x' : Value} (h : pClear z x st = .ok v st') (hw : WR ρ st w) (hx : VR ρ x x')
    (hu : P.underlying t = some (.slice e)) (hi : P.info? e = some i) (hz : i.zero = some z') (hzz : ∀ ρ, VRs ρ (row z) z'.cells.toList) : DoesV P (Builtin.clear_ #[t] ty #[x']) ρ st w v st' := by
  have hun : VR ρ .undef (.tuple #[]) := .undef
  have hzv : (zeroValue e).run P w = .ok z' w := by simp [zeroValue, typeInfo, hi, hz]
  unfold pClear at h
  split at h
  · cases h; cases hx
    exact DoesV.still hw (by simp [Builtin.clear_, run_underlying hu]) hun
  · rename_i b off len cap grow
    obtain ⟨r, sz, off', cap', rfl, hr, c1, c2, c3, c4⟩ := hx.slice_inv
    simp only [bsel_eq, Nat.beq_eq, Bool.or_eq_true, Nat.ble_eq] at h
    split at h
    · rename_i h0
      subst h0
      cases h
      exact DoesV.still hw (by simp [Builtin.clear_, run_underlying hu]) hun
    · rename_i h0
      split at h
      · rename_i hg
        have ho : off' = off := by
          rcases hg with hg | hg
          · exact (c3 hg).2
          · exact c1 (by omega)
        subst ho
        split at h
        · rename_i sg tg gg hm
          split at h
          · rename_i hone
            cases hwr : sg.write off' (repS len z) with
            | none => rw [hwr] at h; cases h
            | some s2 =>
              rw [hwr] at h; cases h
              have hv : VRs ρ (row (repS len z)) (Builtin.zeroCells z'.cells len).toList := by
                rw [row_repS, Builtin.zeroCells, Array.toList_map, Array.toList_range, range_mod]
                exact (hzz ρ).flatten len
              obtain ⟨w', k1, k2⟩ := After.write (P := P) hw hm hr hwr hv hone
              refine ⟨_, w', ρ, ?_, .undef, k2⟩
              obtain ⟨len', rfl⟩ : ∃ k, len = k + 1 := ⟨len - 1, by omega⟩
              simp [Builtin.clear_, run_underlying hu, hzv, k1]
          · cases h
        · cases h
      · cases h
  · cases h

/- min, max -/
noncomputable def pMM (mx : Bool) (x y : CV) (st : St) : OR :=
  match x, y with
  | .int k a, .int j b => bsel (kbeq k j) (.ok (.int k (bsel mx (bsel (zlt a b) b a) (bsel (zlt b a) b a))) st) .bad
  | _, _ => .bad
theorem pMM_sound {mx : Bool} {x y : CV} {x' y' : Value} {ats : Array TypeId} {ty : TypeId} (h : pMM mx x y st = .ok v st') (hw : WR ρ st w) (hx : VR ρ x x') (hy : VR ρ y y') :
    DoesV P (bif mx then Builtin.max_ ats ty #[x', y'] else Builtin.min_ ats ty #[x', y']) ρ st w v st' := by
  unfold pMM at h
  split at h
  · rename_i k a j b
    rw [bsel_eq] at h
    split at h
    · rename_i hk
      rw [kbeq_iff] at hk; subst hk
      cases h; cases hx; cases hy
      refine DoesV.still hw ?_ (.int _ _)
      cases mx
      · simp only [cond_false, Builtin.min_, List.foldlM_cons, List.foldlM_nil, Builtin.min2, bind_pure, Sem.run_pure, bsel_eq, zlt_iff]
        rfl
      · simp only [cond_true, Builtin.max_, List.foldlM_cons, List.foldlM_nil, Builtin.max2, bind_pure, Sem.run_pure, bsel_eq, zlt_iff]
        rfl
    · cases h
  · cases h

/- keys of maps -/
noncomputable def scalC (x y : CV) : Bool :=
  match x, y with
  | .bool a, .bool b => Bool.rec (Bool.not b) b a
  | .int j a, .int k b => Bool.and (kbeq j k) (zeq a b)
  | .str n a, .str m b => seq n a m b
  | _, _ => false
noncomputable def sameS (s : Segs CV) : Segs CV → Bool :=
  Segs.rec (motive := fun _ => Segs CV → Bool) (fun t => match t with | .nil => true | _ => false)
    (fun v _ ih t => match t with | .one u r => Bool.and (scalC v u) (ih r) | _ => false)
    (fun n a _ ih t => match t with | .bytes m b r => Bool.and (Bool.and (Nat.beq n m) (Nat.beq (bTake a n) (bTake b n))) (ih r) | _ => false) s
noncomputable def sameC (x y : CV) : Bool := match x, y with | .agg s, .agg t => sameS s t | x, y => scalC x y

theorem scalC_sound {x y : CV} {x' y' : Value} (h : scalC x y = true) (hx : VR ρ x x') (hy : VR ρ y y') (n : Nat) : x' = y' ∧ Instr.sameBits n x' y' = true := by
  unfold scalC at h
  split at h
  · cases hx; cases hy
    rename_i a b
    have : a = b := by cases a <;> cases b <;> simp_all
    subst this
    exact ⟨rfl, by simp [Instr.sameBits]⟩
  · simp only [Bool.and_eq_true, kbeq_iff, zeq_iff] at h
    cases hx; cases hy
    obtain ⟨rfl, rfl⟩ := h
    exact ⟨rfl, by simp [Instr.sameBits]⟩
  · cases hx; cases hy
    rw [seq_iff] at h
    rw [h]
    exact ⟨rfl, by simp [Instr.sameBits, beq_toListBytes]⟩
  · cases h
theorem sameS_nil (t : Segs CV) : sameS .nil t = (match t with | .nil => true | _ => false) := rfl
theorem sameS_one (v : CV) (r t : Segs CV) : sameS (.one v r) t = (match t with | .one u r' => Bool.and (scalC v u) (sameS r r') | _ => false) := rfl
theorem sameS_bytes (k a : Nat) (r t : Segs CV) : sameS (.bytes k a r) t = (match t with | .bytes j b r' => Bool.and (Bool.and (Nat.beq k j) (Nat.beq (bTake a k) (bTake b k))) (sameS r r') | _ => false) := rfl
theorem sameS_sound (n : Nat) : ∀ (s t : Segs CV) (l m : List Value), sameS s t = true → VRs ρ (row s) l → VRs ρ (row t) m → l = m ∧ (l.zip m).all (fun (x, y) => Instr.sameBits n x y) = true := by
  intro s
  induction s with
  | nil =>
    intro t l m h h1 h2
    rw [sameS_nil] at h
    split at h
    · have a := h1.len; have b := h2.len
      simp only [row, Segs.cells, List.length_nil] at a b
      have a := List.length_eq_zero_iff.1 a.symm; have b := List.length_eq_zero_iff.1 b.symm
      subst a; subst b; exact ⟨rfl, rfl⟩
    · cases h
  | one v r ih =>
    intro t l m h h1 h2
    rw [sameS_one] at h
    split at h
    · rename_i u r'
      simp only [Bool.and_eq_true] at h
      obtain ⟨v', l', rfl, a1, a2⟩ := VRs.inv (l := row r) h1
      obtain ⟨u', m', rfl, b1, b2⟩ := VRs.inv (l := row r') h2
      obtain ⟨rfl, s1⟩ := scalC_sound h.1 a1 b1 n
      obtain ⟨rfl, s2⟩ := ih r' l' m' h.2 a2 b2
      exact ⟨rfl, by simp only [List.zip_cons_cons, List.all_cons, s1, s2, Bool.and_true]⟩
    · cases h
  | bytes k a r ih =>
    intro t l m h h1 h2
    rw [sameS_bytes] at h
    split at h
    · rename_i j b r'
      simp only [Bool.and_eq_true, Nat.beq_eq, bTake_eq] at h
      obtain ⟨⟨rfl, hb⟩, hr⟩ := h
      have hrow : (ub k a).map byteV = (ub k b).map byteV := by rw [← ub_mod k a, ← ub_mod k b, hb]
      have key : ∀ (q : Nat) (l : List Value) (r : Segs CV), VRs ρ (row (.bytes k q r)) l → ∃ l2, l = ((ub k q).map fun x : Nat => Value.int .u8 (x : Int)) ++ l2 ∧ VRs ρ (row r) l2 := by
        intro q l r hl
        have hrw : row (.bytes k q r) = (ub k q).map byteV ++ row r := rfl
        rw [hrw] at hl
        refine ⟨l.drop k, ?_, ?_⟩
        · have h3 := hl.take k
          rw [List.take_left' (by simp)] at h3
          have h4 : row (.bytes k q .nil) = (ub k q).map byteV := by simp [row, Segs.cells]
          rw [← h4] at h3
          have := bytes_vals h3
          rw [List.map_map] at this
          conv => lhs; rw [← List.take_append_drop k l]
          rw [this]; rfl
        · have h3 := hl.drop k
          rw [List.drop_left' (by simp)] at h3
          exact h3
      obtain ⟨l2, rfl, a2⟩ := key a l r h1
      obtain ⟨m2, rfl, b2⟩ := key b m r' h2
      obtain ⟨rfl, s2⟩ := ih r' l2 m2 hr a2 b2
      have hub : ub k a = ub k b := by rw [← ub_mod k a, ← ub_mod k b, hb]
      rw [hub]
      refine ⟨rfl, ?_⟩
      rw [List.zip_append rfl, List.all_append, s2, Bool.and_true]
      rw [List.all_eq_true]
      intro x hx
      have hx' := List.of_mem_zip hx
      have : x.1 = x.2 := by
        obtain ⟨i, hi, rfl⟩ := List.getElem_of_mem hx
        simp
      obtain ⟨p, q⟩ := x
      simp only at this hx'
      subst this
      obtain ⟨y, _, rfl⟩ := List.mem_map.1 hx'.1
      simp [Instr.sameBits]
    · cases h
theorem sameC_sound {x y : CV} {x' y' : Value} (h : sameC x y = true) (hx : VR ρ x x') (hy : VR ρ y y') : x' = y' ∧ Instr.sameBits 10000 x' y' = true := by
  unfold sameC at h
  split at h
  · rename_i s t
    cases hx with | agg _ l hl hh => cases hy with | agg _ m hm hh2 =>
      obtain ⟨rfl, h2⟩ := sameS_sound (ρ := ρ) 9999 s t l m h ⟨hl, hh⟩ ⟨hm, hh2⟩
      refine ⟨rfl, ?_⟩
      show Instr.sameBits (9999 + 1) _ _ = true
      simp only [Instr.sameBits, beq_self_eq_true, Bool.true_and]
      exact h2
  · exact scalC_sound h hx hy 10000
end
end Sim

/- Sim, part 14: maps; composite literals. -/
namespace Sim
open Go

abbrev Ent := CV × CV × Nat
noncomputable def cfind (d : EqD) (k : CV) (es : List Ent) : Nat → Option (Option (Nat × CV)) :=
  List.rec (motive := fun _ => Nat → Option (Option (Nat × CV))) (fun _ => some none)
    (fun e _ ih i => Option.rec none (fun b => bsel b (some (some (i, e.2.1))) (ih (Nat.succ i))) (ceq d k e.1)) es
noncomputable def keyD (d : EqD) : Bool := match d with | .bool | .int | .str | .bytes _ => true | .struct _ | .array .. => true | _ => false
/-- Is k a key: of the form that its type has? -/
noncomputable def isKey (d : EqD) (k : CV) : Bool := Bool.and (keyD d) (Option.rec false (fun b => b) (ceq d k k))

section
variable {P : Program} {ρ : Ren} {st st' : St} {w : World} {v : CV}

/-- The fields of a key's type are of key types too. -/
noncomputable def deepKey : Nat → EqD → Bool
  | 0, _ => false
  | _ + 1, .bool => true
  | _ + 1, .int => true
  | _ + 1, .str => true
  | _ + 1, .bytes _ => true
  | n + 1, .struct fs => deepF n fs
  | n + 1, .array _ _ _ e => deepKey n e
  | _ + 1, _ => false
where deepF : Nat → EqF → Bool
  | 0, _ => false
  | _ + 1, .nil => true
  | n + 1, .cons _ _ _ d r => deepKey n d && deepF n r

theorem findAsking_sound {d : EqD} {t : TypeId} {k : CV} {k' : Value} (hf : EqFine P w ρ d t 10000) (hk : VR ρ k k') : ∀ (es : List Ent) (es' : List MapEntry) (j : Nat) (r : Option (Nat × CV)), es.length = es'.length →
    (∀ (i : Nat) (e : Ent) (e' : MapEntry), es[i]? = some e → es'[i]? = some e' → VR ρ e.1 e'.key ∧ VR ρ e.2.1 e'.val ∧ e.2.2 = e'.born) → cfind d k es j = some r →
    ∃ r', (Instr.findAsking t k' es' j).run P w = .ok r' w ∧ (match r, r' with
      | none, none => True
      | some (i, u), some (i', u') => i = i' ∧ VR ρ u u' ∧ j ≤ i ∧ ∃ e e', es[i - j]? = some e ∧ es'[i - j]? = some e' ∧ e.2.1 = u ∧ e'.val = u'
      | _, _ => False) := by
  intro es
  induction es with
  | nil =>
    intro es' j r hl h hc
    have : es' = [] := by apply List.length_eq_zero_iff.1; simpa using hl.symm
    subst this
    cases hc
    exact ⟨none, by simp [Instr.findAsking], trivial⟩
  | cons e es ih =>
    intro es' j r hl h hc
    cases es' with
    | nil => simp at hl
    | cons e' es' =>
      obtain ⟨a1, a2, a3⟩ := h 0 e e' rfl rfl
      have e0 : cfind d k (e :: es) j = Option.rec none (fun b => bsel b (some (some (j, e.2.1))) (cfind d k es (j + 1))) (ceq d k e.1) := rfl
      rw [e0] at hc
      cases hq : ceq d k e.1 with
      | none => rw [hq] at hc; cases hc
      | some b =>
        rw [hq] at hc
        have hr : (Op.equal t k' e'.key).run P w = .ok b w := hf k e.1 k' e'.key b hq hk a1
        cases b with
        | true =>
          cases hc
          exact ⟨some (j, e'.val), by simp [Instr.findAsking, hr], rfl, a2, Nat.le_refl _, e, e', by simp, by simp, rfl, rfl⟩
        | false =>
          obtain ⟨r', r1, r2⟩ := ih es' (j + 1) r (by simpa using hl) (fun i x x' hx hx' => h (i + 1) x x' (by simpa using hx) (by simpa using hx')) hc
          refine ⟨r', by simp [Instr.findAsking, hr, r1], ?_⟩
          cases r with
          | none => cases r' with
            | none => trivial
            | some _ => exact r2
          | some p => cases r' with
            | none => exact r2
            | some p' =>
              obtain ⟨i, u⟩ := p
              obtain ⟨i', u'⟩ := p'
              obtain ⟨b1, b2, b3, x, x', b4, b5, b6, b7⟩ := r2
              refine ⟨b1, b2, by omega, x, x', ?_, ?_, b6, b7⟩
              · rw [show i - j = (i - (j + 1)) + 1 by omega]; simpa using b4
              · rw [show i - j = (i - (j + 1)) + 1 by omega]; simpa using b5

theorem sameNow_equal {t : TypeId} {u : TypeDesc} {a b : Value} {q : Bool} (hu : P.underlying t = some u) (h : Instr.sameNow u a b = some q) : (Op.equal t a b).run P w = .ok q w := by
  unfold Instr.sameNow at h
  split at h
  · split at h
    · rename_i hk; cases h; subst hk
      exact run_equalIn_int w 9999 t _ _ _ _ hu
    · cases h
  · cases h
    rename_i x y
    rw [beq_toListBytes]
    exact run_equalIn_string w 9999 t x y hu
  · cases h; exact run_equalIn_bool' w 9999 t _ _ hu
  · cases h

theorem findNow_asking {t : TypeId} {u : TypeDesc} {k' : Value} (hu : P.underlying t = some u) : ∀ (es' : List MapEntry) (j : Nat) (r : Option (Nat × Value)), Instr.findNow u k' es' j = some r → (Instr.findAsking t k' es' j).run P w = .ok r w := by
  intro es'
  induction es' with
  | nil => intro j r h; cases h; simp [Instr.findAsking]
  | cons e es' ih =>
    intro j r h
    simp only [Instr.findNow] at h
    split at h
    · rename_i hs; cases h; simp [Instr.findAsking, sameNow_equal hu hs]
    · rename_i hs; simp [Instr.findAsking, sameNow_equal hu hs, ih _ _ h]
    · cases h

theorem findKey_run {t : TypeId} {u : TypeDesc} {k' : Value} {es' : List MapEntry} {r : Option (Nat × Value)} (hu : P.underlying t = some u) (h : (Instr.findAsking t k' es' 0).run P w = .ok r w) : (Instr.findKey t k' es').run P w = .ok r w := by
  simp only [Instr.findKey, Sem.run_bind, run_underlying hu, Result.andThen_ok]
  cases hn : Instr.findNow u k' es' 0 with
  | none => exact h
  | some r' =>
    have := findNow_asking (P := P) (w := w) hu es' 0 r' hn
    rw [this] at h; cases h; rfl

/-- A key is found, or not, as in the clean map. -/
theorem find_sound {d : EqD} {t : TypeId} {f : Nat} {k : CV} {k' : Value} {es : List Ent} {es' : List MapEntry} {r : Option (Nat × CV)} (hd : eqDesc P f t = some d) (hf : f < 10000) (hk : VR ρ k k') (hl : es.length = es'.length)
    (h : ∀ (i : Nat) (e : Ent) (e' : MapEntry), es[i]? = some e → es'[i]? = some e' → VR ρ e.1 e'.key ∧ VR ρ e.2.1 e'.val ∧ e.2.2 = e'.born) (hc : cfind d k es 0 = some r) :
    ∃ r', (Instr.findKey t k' es').run P w = .ok r' w ∧ (match r, r' with
      | none, none => True
      | some (i, u), some (i', u') => i = i' ∧ VR ρ u u' ∧ ∃ e e', es[i]? = some e ∧ es'[i]? = some e' ∧ e.2.1 = u ∧ e'.val = u'
      | _, _ => False) := by
  obtain ⟨r', h1, h2⟩ := findAsking_sound (P := P) (w := w) (eqFine f t d hd 10000 hf) hk es es' 0 r hl h hc
  have hu : ∃ u, P.underlying t = some u := by
    cases f with
    | zero => cases hd
    | succ f =>
      simp only [eqDesc] at hd
      cases hu : P.underlying t with
      | none => rw [hu] at hd; cases hd
      | some u => exact ⟨u, rfl⟩
  obtain ⟨u, hu⟩ := hu
  refine ⟨r', findKey_run hu h1, ?_⟩
  cases r with
  | none => cases r' <;> exact h2
  | some p => cases r' with
    | none => exact h2
    | some p' =>
      obtain ⟨i, u⟩ := p
      obtain ⟨i', u'⟩ := p'
      obtain ⟨b1, b2, b3, x, x', b4, b5, b6, b7⟩ := h2
      exact ⟨b1, b2, x, x', by simpa using b4, by simpa using b5, b6, b7⟩

/- Keys are hashable. -/
def KeyFine (P : Program) (w : World) (ρ : Ren) (d : EqD) (t : TypeId) (n : Nat) : Prop :=
  ∀ (e : Bool) (x : CV) (x' : Value), ceq d x x = some true → VR ρ x x' → (Instr.checkKey e n t x').run P w = .ok () w

theorem andThen_true {a b : Option Bool} (h : andThen a b = some true) : a = some true ∧ b = some true := by
  cases a with
  | none => cases h
  | some q => cases q with
    | false => cases h
    | true => exact ⟨rfl, h⟩

theorem run_forIn_unit {β : Type} (l : List β) (f : β → Sem Unit) (h : ∀ x ∈ l, (f x).run P w = .ok () w) :
    (forIn l PUnit.unit fun x _ => do f x; pure (ForInStep.yield PUnit.unit)).run P w = .ok PUnit.unit w := by
  induction l with
  | nil => rfl
  | cons a l ih =>
    rw [List.forIn_cons]
    simp only [Sem.run_bind, h a (by simp), Result.andThen_ok, Sem.run_pure]
    exact ih (fun x hx => h x (by simp [hx]))

theorem ceqA_refl {len size : Nat} {agg : Bool} {e : EqD} {s : Segs CV} : ∀ (off : Nat), Nat.rec (motive := fun _ => Nat → Option Bool) (fun _ => some true)
        (fun _ ih off => Option.rec none (fun a => Option.rec none (fun b => andThen (ceq e a b) (ih (Nat.add off size))) (cpart agg off size s)) (cpart agg off size s)) len off = some true →
      ∀ j, j < len → ∃ x, cpart agg (off + j * size) size s = some x ∧ ceq e x x = some true := by
  induction len with
  | zero => intro off _ j hj; omega
  | succ len ih =>
    intro off h j hj
    simp only at h
    cases hx : cpart agg off size s with
    | none => rw [hx] at h; cases h
    | some x =>
      rw [hx] at h
      obtain ⟨a1, a2⟩ := andThen_true h
      cases j with
      | zero => exact ⟨x, by simpa using hx, a1⟩
      | succ j =>
        obtain ⟨y, b1, b2⟩ := ih (off + size) a2 j (by omega)
        exact ⟨y, by rw [← b1]; congr 1; rw [Nat.succ_mul]; omega, b2⟩

theorem ceqF_refl {desc : TypeId → Option EqD} {s : Segs CV} : ∀ (fs : List Field) (r : EqF), fieldsD P desc fs = some r → ceqF r s s = some true →
      ∀ f ∈ fs, f.name ≠ "_" ∧ ∃ i u d x, P.info? f.type = some i ∧ P.underlying f.type = some u ∧ desc f.type = some d ∧ cpart (aggOf u) f.offset i.size s = some x ∧ ceq d x x = some true := by
  intro fs
  induction fs with
  | nil => intro r _ _ f hf; cases hf
  | cons g fs ih =>
    intro r h hb f hf
    simp only [fieldsD] at h
    split at h
    · rename_i i u d r' hne hi hu hd hr
      cases h
      simp only [ceqF] at hb
      cases hx : cpart (aggOf u) g.offset i.size s with
      | none => rw [hx] at hb; cases hb
      | some x =>
        rw [hx] at hb
        obtain ⟨a1, a2⟩ := andThen_true hb
        rcases List.mem_cons.1 hf with rfl | hf
        · exact ⟨by simpa using hne, i, u, d, x, hi, hu, hd, hx, a1⟩
        · exact ih r' hr a2 f hf
    · cases h

theorem keyFine : ∀ (f : Nat) (t : TypeId) (d : EqD), eqDesc P f t = some d → ∀ m, deepKey m d = true → ∀ n, f < n → KeyFine P w ρ d t n := by
  intro f
  induction f with
  | zero => intro t d h; cases h
  | succ f ih =>
    intro t d h m hm n hn e x x' hx hv
    obtain ⟨n, rfl⟩ : ∃ k, n = k + 1 := ⟨n - 1, by omega⟩
    simp only [eqDesc] at h
    split at h
    · rename_i hu; simp [Instr.checkKey, run_underlying hu]
    · rename_i k hu; simp [Instr.checkKey, run_underlying hu]
    · rename_i hu; simp [Instr.checkKey, run_underlying hu]
    · rename_i hu; simp [Instr.checkKey, run_underlying hu]
    · cases h; cases m <;> simp [deepKey] at hm
    · rename_i hu; simp [Instr.checkKey, run_underlying hu]
    · rename_i hu; simp [Instr.checkKey, run_underlying hu]
    · rename_i hu; simp [Instr.checkKey, run_underlying hu]
    · rename_i fs hu
      rw [bsel_eq] at h
      split at h
      · cases h
      · split at h
        · rename_i l hl
          cases h
          simp only [ceq] at hx
          split at hx
          · rename_i s1
            cases hv with
            | agg _ lv hlv hh =>
              cases m with
              | zero => cases hm
              | succ m =>
                have hall := ceqF_refl (P := P) fs.toList l hl hx
                simp only [Instr.checkKey, Sem.run_bind, run_underlying hu, Result.andThen_ok]
                rw [← Array.forIn_toList]
                have hdeep : ∀ (q : Nat) (r : EqF) (fl : List Field), fieldsD P (eqDesc P f) fl = some r → deepKey.deepF q r = true → ∀ g ∈ fl, ∀ d', eqDesc P f g.type = some d' → ∃ q', deepKey q' d' = true := by
                  intro q
                  induction q with
                  | zero => intro r fl _ hq; cases hq
                  | succ q ihq =>
                    intro r fl hr hq g hg d' hd'
                    cases fl with
                    | nil => cases hg
                    | cons g0 fl =>
                      simp only [fieldsD] at hr
                      split at hr
                      · rename_i i0 u0 d0 r0 hne0 hi0 hu0 hd0 hr0
                        cases hr
                        simp only [deepKey.deepF, Bool.and_eq_true] at hq
                        rcases List.mem_cons.1 hg with rfl | hg
                        · rw [hd0] at hd'; cases hd'; exact ⟨q, hq.1⟩
                        · exact ihq r0 fl hr0 hq.2 g hg d' hd'
                      · cases hr
                have hg : ∀ g ∈ fs.toList, g.name ≠ "_" ∧ ∃ y', (part g.type lv.toArray g.offset).run P w = .ok y' w ∧ (Instr.checkKey e n g.type y').run P w = .ok () w := by
                  intro g hgm
                  obtain ⟨h1, i, u, d', y, h2, h3, h4, h5, h6⟩ := hall g hgm
                  obtain ⟨y', p1, p2⟩ := cpart_sound (P := P) (w := w) h5 ⟨hlv, hh⟩ h2 rfl h3 rfl
                  obtain ⟨q', hq'⟩ := hdeep m l fs.toList hl hm g hgm d' h4
                  exact ⟨h1, y', p1, ih g.type d' h4 q' hq' n (by omega) e y y' h6 p2⟩
                generalize fs.toList = ll at hg
                refine Eq.trans (congrArg (fun r : Result PUnit => r.andThen _) (?_ : _ = Result.ok PUnit.unit w)) rfl
                induction ll with
                | nil => rfl
                | cons g ll ihl =>
                  obtain ⟨h1, y', p1, p2⟩ := hg g (by simp)
                  rw [List.forIn_cons]
                  simp only [ne_eq, h1, not_false_eq_true, if_true, Sem.run_bind, p1, p2, Result.andThen_ok, Sem.run_pure]
                  exact ihl (fun g' hg' => hg g' (by simp [hg']))
          · cases hx
        · cases h
    · rename_i len el hu
      split at h
      · rename_i i hi hue
        rw [bsel_eq] at h
        split at h
        · rename_i h1
          rw [Nat.beq_eq] at h1
          cases h
          simp only [ceq] at hx
          split at hx
          · rename_i n1 a
            rw [bsel_eq] at hx
            split at hx
            · rename_i hq
              simp only [Bool.and_eq_true, Nat.beq_eq] at hq
              obtain ⟨rfl, _⟩ := hq
              rw [hv.bytes_inv]
              have hs : (Go.sizeOf el).run P w = .ok 1 w := by simp [Go.sizeOf, typeInfo, hi, h1]
              simp only [Instr.checkKey, Sem.run_bind, run_underlying hu, Result.andThen_ok, Std.Legacy.Range.forIn_eq_forIn_range', Std.Legacy.Range.size, Nat.sub_zero, Nat.add_one_sub_one, Nat.div_one]
              obtain ⟨n', rfl⟩ : ∃ k, n = k + 1 := ⟨n - 1, by omega⟩
              refine Eq.trans (congrArg (fun r : Result PUnit => r.andThen _) (?_ : _ = Result.ok PUnit.unit w)) rfl
              have hl : ∀ j ∈ List.range' 0 n1 1, j < n1 := fun j hj => by simpa using (List.mem_range'_1.1 hj).2
              generalize List.range' 0 n1 1 = ll at hl
              induction ll with
              | nil => rfl
              | cons j ll ihl =>
                have hj := hl j (by simp)
                have hp : (part el (((ub n1 a).map UInt8.ofNat).map Extern.Stop.cell).toArray (j * 1)).run P w = .ok (Extern.Stop.cell (((ub n1 a).map UInt8.ofNat)[j]'(by simpa using hj))) w := by
                  simp [part, isAgg, run_underlying hue, hj]
                rw [List.forIn_cons]
                simp only [Sem.run_bind, hs, hp, Result.andThen_ok, Instr.checkKey, run_underlying hue, Sem.run_pure]
                exact ihl (fun j' hj' => hl j' (by simp [hj']))
            · cases hx
          · cases hx
        · cases h
      · rename_i i u hne hi hue
        split at h
        · rename_i d' hd
          cases h
          simp only [ceq] at hx
          split at hx
          · rename_i s1
            cases hv with
            | agg _ lv hlv hh =>
              cases m with
              | zero => cases hm
              | succ m =>
                have hm' : deepKey m d' = true := hm
                have hs : (Go.sizeOf el).run P w = .ok i.size w := by simp [Go.sizeOf, typeInfo, hi]
                have hall := ceqA_refl (s := s1) 0 hx
                simp only [Instr.checkKey, Sem.run_bind, run_underlying hu, Result.andThen_ok, Std.Legacy.Range.forIn_eq_forIn_range', Std.Legacy.Range.size, Nat.sub_zero, Nat.add_one_sub_one, Nat.div_one]
                refine Eq.trans (congrArg (fun r : Result PUnit => r.andThen _) (?_ : _ = Result.ok PUnit.unit w)) rfl
                have hl : ∀ j ∈ List.range' 0 len 1, j < len := fun j hj => by simpa using (List.mem_range'_1.1 hj).2
                generalize List.range' 0 len 1 = ll at hl
                induction ll with
                | nil => rfl
                | cons j ll ihl =>
                  have hj := hl j (by simp)
                  obtain ⟨y, b1, b2⟩ := hall j hj
                  rw [Nat.zero_add] at b1
                  obtain ⟨y', p1, p2⟩ := cpart_sound (P := P) (w := w) b1 ⟨hlv, hh⟩ hi rfl hue rfl
                  have := ih el d' hd m hm' n (by omega) e y y' b2 p2
                  rw [List.forIn_cons]
                  simp only [Sem.run_bind, hs, p1, this, Result.andThen_ok, Sem.run_pure]
                  exact ihl (fun j' hj' => hl j' (by simp [hj']))
          · cases hx
        · cases h
      · cases h
    · cases h
end
end Sim

/- Sim, part 15: the operations on maps; composite literals. -/
namespace Sim
open Go

structure KeyT where
  d : EqD
noncomputable def entsOf (x : CV) (st : St) : Option (List Ent) :=
  match x with
  | .nilmap => some []
  | .map b => (match st.mem.get b with | some (.map es _) => some es | _ => none)
  | _ => none
/-- A map whose entries lie in no known order: the keys are ints. -/
noncomputable def lmapOf (x : CV) (st : St) : Option (List Ent) :=
  match x with
  | .map b => (match st.mem.get b with | some (.lmap es) => some es | _ => none)
  | _ => none
noncomputable def isA (a : Int) (v : CV) : Bool := match v with | .int .i64 n => zeq a n | _ => false
noncomputable def lget (a : Int) (es : List Ent) : Option CV := List.rec (motive := fun _ => Option CV) none (fun e _ ih => bsel (isA a e.1) (some e.2.1) ih) es
noncomputable def lupd (a : Int) (x : CV) (es : List Ent) : List Ent := List.rec (motive := fun _ => List Ent) [] (fun e _ ih => bsel (isA a e.1) ((e.1, x, e.2.2) :: ih) (e :: ih)) es
noncomputable def keyA (d : EqD) (k : CV) : Option Int := match d, k with | .int, .int .i64 a => some a | _, _ => none
noncomputable def pLookupL (d : EqD) (z : CV) (ok : Bool) (es : List Ent) (k : CV) (st : St) : OR :=
  match keyA d k with
  | some a => (match lget a es with
    | some u => bsel ok (.ok (.tuple (.one u (.one (.bool true) .nil))) st) (.ok u st)
    | none => bsel ok (.ok (.tuple (.one z (.one (.bool false) .nil))) st) (.ok z st))
  | none => .bad
noncomputable def pLookup (d : EqD) (z : CV) (ok : Bool) (x k : CV) (st : St) : OR :=
  bsel (isKey d k) (match lmapOf x st with
    | some es => pLookupL d z ok es k st
    | none => (match entsOf x st with
    | some es => (match cfind d k es 0 with
      | some (some (_, u)) => bsel ok (.ok (.tuple (.one u (.one (.bool true) .nil))) st) (.ok u st)
      | some none => bsel ok (.ok (.tuple (.one z (.one (.bool false) .nil))) st) (.ok z st)
      | none => .bad)
    | none => .bad)) .bad
noncomputable def modAt (es : List Ent) (i : Nat) (e : Ent) : List Ent :=
  List.rec (motive := fun _ => Nat → List Ent) (fun _ => []) (fun x r ih i => Nat.rec (e :: r) (fun j _ => x :: ih j) i) es i
noncomputable def entAt (es : List Ent) (i : Nat) : Option Ent := List.rec (motive := fun _ => Nat → Option Ent) (fun _ => none) (fun x _ ih i => Nat.rec (some x) (fun j _ => ih j) i) es i
noncomputable def delAt (es : List Ent) (i : Nat) : List Ent :=
  List.rec (motive := fun _ => Nat → List Ent) (fun _ => []) (fun x r ih i => Nat.rec r (fun j _ => x :: ih j) i) es i
noncomputable def pUpdL (d : EqD) (b : Bp) (es : List Ent) (k x : CV) (st : St) : OR :=
  match keyA d k with
  | some a => (match lget a es with
    | some _ => .ok .undef ⟨st.mem.put b (some (.lmap (lupd a x es))), st.next⟩
    | none => .ok .undef ⟨st.mem.put b (some (.lmap (es ++ [(k, x, 0)]))), st.next⟩)
  | none => .bad
noncomputable def pMapUpdate (d : EqD) (m k x : CV) (st : St) : OR :=
  bsel (isKey d k) (match m with
    | .map b => (match st.mem.get b with
      | some (.lmap es) => pUpdL d b es k x st
      | some (.map es clock) => (match cfind d k es 0 with
        | some (some (i, _)) => (match entAt es i with
          | some (k0, _, born) => bsel (sameC k0 k) (.ok .undef ⟨st.mem.put b (some (.map (modAt es i (k, x, born)) clock)), st.next⟩) .bad
          | none => .bad)
        | some none => forceN (Nat.succ clock) fun c => .ok .undef ⟨st.mem.put b (some (.map (es ++ [(k, x, clock)]) c)), st.next⟩
        | none => .bad)
      | _ => .bad)
    | _ => .bad) .bad
noncomputable def pMapEntry (d : EqD) (z : CV) (m k : CV) (st : St) : OR :=
  bsel (isKey d k) (match m with
    | .map b => (match st.mem.get b with
      | some (.map es clock) => (match cfind d k es 0 with
        | some (some (i, u)) => (match entAt es i with
          | some (k0, _, born) => bsel (sameC k0 k) (.ok (.tuple (.one u (.one (.int .i64 (.ofNat born)) .nil))) ⟨st.mem.put b (some (.map (modAt es i (k, u, born)) clock)), st.next⟩) .bad
          | none => .bad)
        | some none => forceN (Nat.succ clock) fun c => .ok (.tuple (.one z (.one (.int .i64 (.ofNat clock)) .nil))) ⟨st.mem.put b (some (.map (es ++ [(k, z, clock)]) c)), st.next⟩
        | none => .bad)
      | _ => .bad)
    | _ => .bad) .bad
noncomputable def bornAt (born : Nat) (es : List Ent) : Nat → Option (Nat × Ent) :=
  List.rec (motive := fun _ => Nat → Option (Nat × Ent)) (fun _ => none) (fun x _ ih i => bsel (Nat.beq x.2.2 born) (some (i, x)) (ih (Nat.succ i))) es
noncomputable def pEntryStore (m s x : CV) (st : St) : OR :=
  match m, s with
  | .map b, .int _ (.ofNat born) => (match st.mem.get b with
    | some (.map es clock) => (match bornAt born es 0 with
      | some (i, (k, _, bn)) => .ok .undef ⟨st.mem.put b (some (.map (modAt es i (k, x, bn)) clock)), st.next⟩
      | none => .bad)
    | _ => .bad)
  | _, _ => .bad
noncomputable def pDelete (d : EqD) (m k : CV) (st : St) : OR :=
  bsel (isKey d k) (match m with
    | .nilmap => .ok .undef st
    | .map b => (match st.mem.get b with
      | some (.map es clock) => (match cfind d k es 0 with
        | some (some (i, _)) => .ok .undef ⟨st.mem.put b (some (.map (delAt es i) clock)), st.next⟩
        | some none => .ok .undef st
        | none => .bad)
      | _ => .bad)
    | _ => .bad) .bad
noncomputable def pMkMap (r : Option CV) (st : St) : OR :=
  match r with
  | none | some (.int _ _) => forceB st.next.succ fun n => .ok (.map st.next) ⟨st.mem.put st.next (some (.map [] 0)), n⟩
  | _ => .bad

section
variable {P : Program} {ρ : Ren} {st st' : St} {w : World} {v : CV}

/-- Entries, pair by pair. -/
def EsR (ρ : Ren) (es : List Ent) (es' : List MapEntry) : Prop :=
  es.length = es'.length ∧ ∀ (i : Nat) (e : Ent) (e' : MapEntry), es[i]? = some e → es'[i]? = some e' → VR ρ e.1 e'.key ∧ VR ρ e.2.1 e'.val ∧ e.2.2 = e'.born
theorem EsR.nil : EsR ρ [] [] := ⟨rfl, fun i e e' h => by simp at h⟩
theorem EsR.cons {e : Ent} {e' : MapEntry} {es : List Ent} {es' : List MapEntry} (h : VR ρ e.1 e'.key ∧ VR ρ e.2.1 e'.val ∧ e.2.2 = e'.born) (t : EsR ρ es es') : EsR ρ (e :: es) (e' :: es') :=
  ⟨by simp [t.1], fun i x x' a b => by
    cases i with
    | zero => simp at a b; subst a; subst b; exact h
    | succ i => exact t.2 i x x' (by simpa using a) (by simpa using b)⟩
theorem EsR.inv {e : Ent} {es : List Ent} {es' : List MapEntry} (h : EsR ρ (e :: es) es') : ∃ e' t', es' = e' :: t' ∧ (VR ρ e.1 e'.key ∧ VR ρ e.2.1 e'.val ∧ e.2.2 = e'.born) ∧ EsR ρ es t' := by
  cases es' with
  | nil => have := h.1; simp at this
  | cons e' t' => exact ⟨e', t', rfl, h.2 0 e e' rfl rfl, by have := h.1; simpa using this, fun i x x' a b => h.2 (i + 1) x x' (by simpa using a) (by simpa using b)⟩
theorem EsR.app {es fs : List Ent} {es' fs' : List MapEntry} (h : EsR ρ es es') (t : EsR ρ fs fs') : EsR ρ (es ++ fs) (es' ++ fs') := by
  induction es generalizing es' with
  | nil => have : es' = [] := by have := h.1; simpa using this.symm
           subst this; exact t
  | cons e es ih => obtain ⟨e', t', rfl, h1, h2⟩ := h.inv; exact EsR.cons h1 (ih h2)
theorem EsR.mod {f : MapEntry → MapEntry} {e : Ent} : ∀ {es : List Ent} {es' : List MapEntry} (i : Nat), EsR ρ es es' → (∀ e', es'[i]? = some e' → VR ρ e.1 (f e').key ∧ VR ρ e.2.1 (f e').val ∧ e.2.2 = (f e').born) → EsR ρ (modAt es i e) (es'.modify i f) := by
  intro es
  induction es with
  | nil =>
    intro es' i h _
    have : es' = [] := by have := h.1; simpa using this.symm
    subst this
    rw [List.modify_nil]; exact h
  | cons x es ih =>
    intro es' i h hf
    obtain ⟨x', t', rfl, h1, h2⟩ := h.inv
    cases i with
    | zero =>
      show EsR ρ (e :: es) _
      rw [List.modify_zero_cons]
      exact EsR.cons (hf x' rfl) h2
    | succ i =>
      show EsR ρ (x :: modAt es i e) _
      rw [List.modify_succ_cons]
      exact EsR.cons h1 (ih i h2 (fun e' he => hf e' (by simpa using he)))
theorem EsR.del : ∀ {es : List Ent} {es' : List MapEntry} (i : Nat), EsR ρ es es' → EsR ρ (delAt es i) (es'.eraseIdx i) := by
  intro es
  induction es with
  | nil =>
    intro es' i h
    have : es' = [] := by have := h.1; simpa using this.symm
    subst this
    rw [List.eraseIdx_nil]; exact h
  | cons x es ih =>
    intro es' i h
    obtain ⟨x', t', rfl, h1, h2⟩ := h.inv
    cases i with
    | zero => exact h2
    | succ i =>
      show EsR ρ (x :: delAt es i) _
      rw [List.eraseIdx_cons_succ]
      exact EsR.cons h1 (ih i h2)
theorem entAt_eq : ∀ (es : List Ent) (i : Nat), entAt es i = es[i]? := by
  intro es
  induction es with
  | nil => intro i; rfl
  | cons x es ih => intro i; cases i with
    | zero => rfl
    | succ i => show entAt es i = _; rw [ih]; simp

theorem isKey_sound {d : EqD} {t : TypeId} {f m : Nat} {k : CV} {k' : Value} (h : isKey d k = true) (hd : eqDesc P f t = some d) (hf : f < 10000) (hm : deepKey m d = true) (hk : VR ρ k k') (e : Bool) : (Instr.checkKey e 10000 t k').run P w = .ok () w := by
  unfold isKey at h
  simp only [Bool.and_eq_true] at h
  have : ceq d k k = some true := by
    cases hc : ceq d k k with
    | none => rw [hc] at h; cases h.2
    | some b => rw [hc] at h; rw [show b = true from h.2]
  exact keyFine f t d hd m hm 10000 hf e k k' this hk

theorem VRs.two {a b : CV} {a' b' : Value} (ha : VR ρ a a') (hb : VR ρ b b') : VRs ρ (row (.one a (.one b .nil))) [a', b'] := VRs.cons ha (VRs.cons hb (VRs.nil ρ))

/- loose maps -/
theorem isA_iff {a : Int} {v : CV} : isA a v = true ↔ v = .int .i64 a := by
  unfold isA
  split
  · rw [zeq_iff]; constructor
    · intro h; rw [h]
    · intro h; cases h; rfl
  · rename_i h
    constructor
    · intro hh; cases hh
    · intro hh; subst hh; exact (h _ rfl).elim
theorem lget_cons (a : Int) (e : Ent) (es : List Ent) : lget a (e :: es) = bsel (isA a e.1) (some e.2.1) (lget a es) := rfl
theorem lupd_cons (a : Int) (x : CV) (e : Ent) (es : List Ent) : lupd a x (e :: es) = bsel (isA a e.1) ((e.1, x, e.2.2) :: lupd a x es) (e :: lupd a x es) := rfl
theorem lupd_map (a : Int) (x : CV) (es : List Ent) : lupd a x es = es.map fun e => if isA a e.1 = true then (e.1, x, e.2.2) else e := by
  induction es with
  | nil => rfl
  | cons e es ih =>
    rw [lupd_cons, List.map_cons, ← ih, bsel_eq]
    split <;> rfl
theorem lget_some {a : Int} : ∀ {es : List Ent} {u : CV}, lget a es = some u → ∃ e ∈ es, e.1 = .int .i64 a ∧ e.2.1 = u := by
  intro es
  induction es with
  | nil => intro u h; cases h
  | cons e es ih =>
    intro u h
    rw [lget_cons, bsel_eq] at h
    split at h
    · rename_i hh; cases h; exact ⟨e, List.mem_cons_self .., isA_iff.1 hh, rfl⟩
    · obtain ⟨e', h1, h2⟩ := ih h; exact ⟨e', List.mem_cons_of_mem _ h1, h2⟩
theorem lget_none {a : Int} : ∀ {es : List Ent}, lget a es = none → ∀ e ∈ es, e.1 ≠ .int .i64 a := by
  intro es
  induction es with
  | nil => intro _ e he; cases he
  | cons e es ih =>
    intro h x hx
    rw [lget_cons, bsel_eq] at h
    split at h
    · cases h
    · rename_i hh
      rcases List.mem_cons.1 hx with rfl | hx
      · exact fun hh' => hh (isA_iff.2 hh')
      · exact ih h x hx
theorem nodup_key {es : List Ent} (hn : (es.map (·.1)).Nodup) {e f : Ent} (he : e ∈ es) (hf : f ∈ es) (h : e.1 = f.1) : e = f := by
  induction es with
  | nil => cases he
  | cons x es ih =>
    rw [List.map_cons, List.nodup_cons] at hn
    rcases List.mem_cons.1 he with he1 | he1
    · rcases List.mem_cons.1 hf with hf1 | hf1
      · rw [he1, hf1]
      · exact absurd (by rw [← he1, h]; exact List.mem_map_of_mem (f := (·.1)) hf1) hn.1
    · rcases List.mem_cons.1 hf with hf1 | hf1
      · exact absurd (by rw [← hf1, ← h]; exact List.mem_map_of_mem (f := (·.1)) he1) hn.1
      · exact ih hn.2 he1 hf1
/-- What the model finds in such a map. -/
theorem lfind_sound {t : TypeId} {a : Int} {k' : Value} {f : Nat} {l : List Ent} {es' : List MapEntry} (hd : eqDesc P f t = some .int) (hf : f < 10000) (hk : VR ρ (.int .i64 a) k') (hi : ∀ e ∈ l, ∃ n : Int, e.1 = .int .i64 n) (hl : l.length = es'.length)
    (h : ∀ (i : Nat) (e : Ent) (e' : MapEntry), l[i]? = some e → es'[i]? = some e' → VR ρ e.1 e'.key ∧ VR ρ e.2.1 e'.val) :
    ∃ r', (Instr.findKey t k' es').run P w = .ok r' w ∧ (match r' with
      | none => ∀ e ∈ l, e.1 ≠ .int .i64 a
      | some (j, u') => ∃ e e', l[j]? = some e ∧ es'[j]? = some e' ∧ e.1 = .int .i64 a ∧ e'.val = u') := by
  -- the entries with the births that they have
  have key : ∀ (l : List Ent) (i : Nat), (∀ e ∈ l, ∃ n : Int, e.1 = .int .i64 n) →
      (∃ j e, l[j]? = some e ∧ e.1 = .int .i64 a ∧ cfind .int (.int .i64 a) l i = some (some (i + j, e.2.1))) ∨ ((∀ e ∈ l, e.1 ≠ .int .i64 a) ∧ cfind .int (.int .i64 a) l i = some none) := by
    intro l
    induction l with
    | nil => intro i _; exact .inr ⟨fun e he => (by cases he), rfl⟩
    | cons e l ih =>
      intro i hi
      obtain ⟨n, hn⟩ := hi e (List.mem_cons_self ..)
      have e0 : cfind .int (.int .i64 a) (e :: l) i = Option.rec none (fun b => bsel b (some (some (i, e.2.1))) (cfind .int (.int .i64 a) l (Nat.succ i))) (ceq .int (.int .i64 a) e.1) := rfl
      rw [e0, hn]
      have e1 : ceq .int (.int .i64 a) (.int .i64 n) = some (zeq a n) := rfl
      rw [e1]
      dsimp only
      rw [bsel_eq]
      by_cases hz : zeq a n = true
      · rw [if_pos hz]
        have := (zeq_iff a n).1 hz; subst this
        exact .inl ⟨0, e, rfl, hn, rfl⟩
      · rw [if_neg hz]
        rcases ih (i + 1) (fun e he => hi e (List.mem_cons_of_mem _ he)) with ⟨j, e', h1, h2, h3⟩ | ⟨h1, h2⟩
        · exact .inl ⟨j + 1, e', by simpa using h1, h2, by rw [show i + (j + 1) = i + 1 + j by omega]; exact h3⟩
        · refine .inr ⟨fun x hx => ?_, h2⟩
          rcases List.mem_cons.1 hx with rfl | hx
          · rw [hn]; intro hh; cases hh; exact hz ((zeq_iff _ _).2 rfl)
          · exact h1 x hx
  have hlz : ∀ (i : Nat) (e : Ent) (e' : MapEntry), (List.zipWith (fun (e : Ent) (e' : MapEntry) => ((e.1, e.2.1, e'.born) : Ent)) l es')[i]? = some e → es'[i]? = some e' → ∃ e0, l[i]? = some e0 ∧ e = (e0.1, e0.2.1, e'.born) := by
    intro i e e' h1 h2
    rw [List.getElem?_zipWith] at h1
    cases h3 : l[i]? with
    | none => rw [h3] at h1; simp at h1
    | some e0 => rw [h3, h2] at h1; simp at h1; exact ⟨e0, rfl, h1.symm⟩
  have hzi : ∀ e ∈ List.zipWith (fun (e : Ent) (e' : MapEntry) => ((e.1, e.2.1, e'.born) : Ent)) l es', ∃ n : Int, e.1 = .int .i64 n := by
    intro e he
    obtain ⟨i, hi', rfl⟩ := List.getElem_of_mem he
    have hlt : i < es'.length := by simp at hi'; omega
    obtain ⟨e0, g1, g2⟩ := hlz i _ es'[i] (List.getElem?_eq_getElem hi') (List.getElem?_eq_getElem hlt)
    rw [g2]; exact hi e0 (List.mem_of_getElem? g1)
  have hlen : (List.zipWith (fun (e : Ent) (e' : MapEntry) => ((e.1, e.2.1, e'.born) : Ent)) l es').length = es'.length := by simp [hl]
  have hpair : ∀ (i : Nat) (e : Ent) (e' : MapEntry), (List.zipWith (fun (e : Ent) (e' : MapEntry) => ((e.1, e.2.1, e'.born) : Ent)) l es')[i]? = some e → es'[i]? = some e' → VR ρ e.1 e'.key ∧ VR ρ e.2.1 e'.val ∧ e.2.2 = e'.born := by
    intro i e e' h1 h2
    obtain ⟨e0, g1, g2⟩ := hlz i e e' h1 h2
    obtain ⟨g3, g4⟩ := h i e0 e' g1 h2
    rw [g2]; exact ⟨g3, g4, rfl⟩
  rcases key _ 0 hzi with ⟨j, e, h1, h2, h3⟩ | ⟨h1, h2⟩
  · obtain ⟨r', f1, f2⟩ := find_sound (P := P) (w := w) hd hf hk hlen hpair h3
    cases r' with
    | none => exact f2.elim
    | some p =>
      obtain ⟨j', u'⟩ := p
      obtain ⟨rfl, g2, e1, e', g3, g4, g5, g6⟩ := f2
      rw [Nat.zero_add] at g3 g4 f1
      obtain ⟨e0, k1, k2⟩ := hlz j e1 e' g3 g4
      rw [h1] at g3; cases g3
      refine ⟨_, f1, e0, e', k1, g4, ?_, g6⟩
      rw [k2] at h2; exact h2
  · obtain ⟨r', f1, f2⟩ := find_sound (P := P) (w := w) hd hf hk hlen hpair h2
    cases r' with
    | some p => exact f2.elim
    | none =>
      refine ⟨_, f1, fun e he => ?_⟩
      obtain ⟨i, hi', rfl⟩ := List.getElem_of_mem he
      have hlt : i < es'.length := by omega
      have hm : (List.zipWith (fun (e : Ent) (e' : MapEntry) => ((e.1, e.2.1, e'.born) : Ent)) l es')[i]? = some (l[i].1, l[i].2.1, es'[i].born) := by
        rw [List.getElem?_zipWith, List.getElem?_eq_getElem hi', List.getElem?_eq_getElem hlt]
      exact h1 (l[i].1, l[i].2.1, es'[i].born) (List.mem_of_getElem? hm)

theorem pLookup_sound {d : EqD} {z : CV} {ok : Bool} {t kt et : TypeId} {f m : Nat} {i : TypeInfo} {z' : Value} {x k : CV} {x' k' : Value} (h : pLookup d z ok x k st = .ok v st') (hw : WR ρ st w) (hx : VR ρ x x') (hk : VR ρ k k')
    (hu : P.underlying t = some (.map kt et)) (hd : eqDesc P f kt = some d) (hf : f < 10000) (hm : deepKey m d = true) (hi : P.info? et = some i) (hz : i.zero = some z') (hzz : VR ρ z z') : DoesV P (Instr.lookup t x' k' ok) ρ st w v st' := by
  unfold pLookup at h
  rw [bsel_eq] at h
  split at h
  · rename_i hik
    have hck := fun e => isKey_sound (w := w) hik hd hf hm hk e
    by_cases hlm : ∃ es, lmapOf x st = some es
    · obtain ⟨es, hlm⟩ := hlm
      rw [hlm] at h
      dsimp only at h
      have hzv : (zeroValue et).run P w = .ok z' w := by simp [zeroValue, typeInfo, hi, hz]
      unfold lmapOf at hlm
      split at hlm
      · rename_i b
        split at hlm
        · rename_i es0 hmm
          cases hlm
          cases hx with
          | map _ r0 sz hr0 =>
            obtain ⟨l, clock, es', h1, h2, h3, h4, h5, h6, h7⟩ := hw.lmap hmm hr0
            unfold pLookupL at h
            split at h
            · rename_i a ha
              unfold keyA at ha
              split at ha
              · cases ha
                obtain ⟨r', f1, f2⟩ := lfind_sound (P := P) (w := w) hd hf hk (fun e he => h3 e (h2.mem_iff.1 he)) h6 h7
                have run : ∀ u' q, (match r' with | some (_, u) => (.ok (u, true) w : Result (Value × Bool)) | none => .ok (z', false) w) = .ok (u', q) w →
                    (Instr.lookup t (.map (some r0)) k' ok).run P w = .ok (if ok then .tuple #[u', .bool q] else u') w := by
                  intro u' q hq
                  simp only [Instr.lookup, Sem.run_bind, run_underlying hu, Result.andThen_ok, Sem.run_pure, run_getObj_map h1, hck, f1]
                  cases r' with
                  | none => cases hq; simp [hzv]
                  | some p => cases hq; simp
                cases hg : lget a es with
                | some u =>
                  rw [hg] at h
                  obtain ⟨e, he, he1, he2⟩ := lget_some hg
                  cases r' with
                  | none => exact absurd he1 (f2 e (h2.mem_iff.2 he))
                  | some p =>
                    obtain ⟨j, u'⟩ := p
                    obtain ⟨e1, e', g1, g2, g3, g4⟩ := f2
                    have hee : e1 = e := nodup_key h4 (h2.mem_iff.1 (List.mem_of_getElem? g1)) he (by rw [g3, he1])
                    subst hee
                    have hv := (h7 j _ _ g1 g2).2
                    rw [he2, g4] at hv
                    have hr := run u' true rfl
                    cases ok with
                    | false => cases h; exact DoesV.still hw hr hv
                    | true => cases h; exact DoesV.still hw hr (VR.tuple' (VRs.two hv (.bool true)))
                | none =>
                  rw [hg] at h
                  cases r' with
                  | some p =>
                    obtain ⟨j, u'⟩ := p
                    obtain ⟨e1, e', g1, g2, g3, g4⟩ := f2
                    exact absurd g3 (lget_none hg e1 (h2.mem_iff.1 (List.mem_of_getElem? g1)))
                  | none =>
                    have hr := run z' false rfl
                    cases ok with
                    | false => cases h; exact DoesV.still hw hr hzz
                    | true => cases h; exact DoesV.still hw hr (VR.tuple' (VRs.two hzz (.bool false)))
              · cases ha
            · cases h
        · cases hlm
      · cases hlm
    have hlm' : lmapOf x st = none := by
      cases hh : lmapOf x st with
      | none => rfl
      | some es => exact absurd ⟨es, hh⟩ hlm
    rw [hlm'] at h
    dsimp only at h
    cases he : entsOf x st with
    | none => rw [he] at h; cases h
    | some es =>
      rw [he] at h
      dsimp only at h
      have key : ∃ es' : List MapEntry, EsR ρ es es' ∧ ∀ (r : Option (Nat × Value)), (Instr.findKey kt k' es').run P w = .ok r w → ∀ u' q, (match r with | some (_, u) => (.ok (u, true) w : Result (Value × Bool)) | none => .ok (z', false) w) = .ok (u', q) w →
          (Instr.lookup t x' k' ok).run P w = .ok (if ok then .tuple #[u', .bool q] else u') w := by
        have hzv : (zeroValue et).run P w = .ok z' w := by simp [zeroValue, typeInfo, hi, hz]
        unfold entsOf at he
        split at he
        · cases he; cases hx
          refine ⟨[], EsR.nil, fun r hr u' q hq => ?_⟩
          simp only [Instr.lookup, Sem.run_bind, run_underlying hu, Result.andThen_ok, Sem.run_pure, hck, hr]
          cases r with
          | none => cases hq; simp [hzv]
          | some p => cases hq; simp
        · rename_i b
          split at he
          · rename_i es0 clock hmm
            cases he
            cases hx with
            | map _ r0 sz hr0 =>
              obtain ⟨es', h1, h2, h3⟩ := hw.map hmm hr0
              refine ⟨es', ⟨h2, h3⟩, fun r hr u' q hq => ?_⟩
              simp only [Instr.lookup, Sem.run_bind, run_underlying hu, Result.andThen_ok, Sem.run_pure, run_getObj_map h1, hck, hr]
              cases r with
              | none => cases hq; simp [hzv]
              | some p => cases hq; simp
          · cases he
        · cases he
      obtain ⟨es', e1, e2⟩ := key
      cases hc : cfind d k es 0 with
      | none => rw [hc] at h; cases h
      | some r =>
        rw [hc] at h
        obtain ⟨r', f1, f2⟩ := find_sound (P := P) (w := w) hd hf hk e1.1 e1.2 hc
        cases r with
        | none =>
          cases r' with
          | some _ => exact f2.elim
          | none =>
            have := e2 none f1 z' false rfl
            cases ok with
            | false => cases h; exact DoesV.still hw this hzz
            | true => cases h; exact DoesV.still hw this (VR.tuple' (VRs.two hzz (.bool false)))
        | some p =>
          obtain ⟨j, u⟩ := p
          cases r' with
          | none => exact f2.elim
          | some p' =>
            obtain ⟨j', u'⟩ := p'
            obtain ⟨_, g2, _⟩ := f2
            have := e2 _ f1 u' true rfl
            cases ok with
            | false => cases h; exact DoesV.still hw this g2
            | true => cases h; exact DoesV.still hw this (VR.tuple' (VRs.two g2 (.bool true)))
  · cases h

/-- A map is turned. -/
theorem After.mapSet {b : Bp} {es es2 : List Ent} {clock clock2 r sz : Nat} {es2' : List MapEntry} (hw : WR ρ st w) (hm : st.mem.get b = some (.map es clock)) (hr : ρ b = some (r, sz)) (he : EsR ρ es2 es2') :
    After ρ st w ρ (st.set b (.map es2 clock2)) { w with heap := w.heap.setIfInBounds r (.map es2'.toArray clock2) } := by
  obtain ⟨es', h1, _⟩ := hw.map hm hr
  have hlt := (Array.getElem?_eq_some_iff.1 h1).1
  exact After.set hw hm hr (by simp [hlt]) (.map es2 clock2 es2' he.1 he.2 sz) (fun k hk => by simp [Array.getElem?_setIfInBounds_ne (Ne.symm hk)]) (by simp) rfl rfl
theorem run_setObj_map {r clock : Nat} {es : Array MapEntry} {o : Obj} (h : w.heap[r]? = some (.map es clock)) : (setObj r o).run P w = .ok () { w with heap := w.heap.setIfInBounds r o } := by
  simp only [setObj, Sem.run, h]

/-- A loose map is turned. -/
theorem After.lmapSet {b : Bp} {es es2 l2 : List Ent} {clock2 r sz : Nat} {es2' : List MapEntry} (hw : WR ρ st w) (hm : st.mem.get b = some (.lmap es)) (hr : ρ b = some (r, sz)) (hp : l2.Perm es2) (hi : ∀ e ∈ es2, ∃ n : Int, e.1 = .int .i64 n) (hn : (es2.map (·.1)).Nodup)
    (hs : Go.MapKept.Stamped es2'.toArray clock2) (hl : l2.length = es2'.length) (h : ∀ (i : Nat) (e : Ent) (e' : MapEntry), l2[i]? = some e → es2'[i]? = some e' → VR ρ e.1 e'.key ∧ VR ρ e.2.1 e'.val) :
    After ρ st w ρ (st.set b (.lmap es2)) { w with heap := w.heap.setIfInBounds r (.map es2'.toArray clock2) } := by
  obtain ⟨_, _, es', h1, _⟩ := hw.lmap hm hr
  have hlt := (Array.getElem?_eq_some_iff.1 h1).1
  exact After.set hw hm hr (by simp [hlt]) (.lmap es2 l2 clock2 es2' hp hi hn hs hl h sz) (fun k hk => by simp [Array.getElem?_setIfInBounds_ne (Ne.symm hk)]) (by simp) rfl rfl
theorem intKey {n : Int} {v' : Value} (h : VR ρ (.int .i64 n) v') : v' = .int .i64 n := by cases h; rfl
theorem pUpdL_run {d : EqD} {b : Bp} {es : List Ent} {t kt et : TypeId} {f r0 sz : Nat} {k y : CV} {k' y' : Value} (h : pUpdL d b es k y st = .ok v st') (hw : WR ρ st w) (hmm : st.mem.get b = some (.lmap es)) (hr0 : ρ b = some (r0, sz)) (hk : VR ρ k k') (hy : VR ρ y y')
    (hu : P.underlying t = some (.map kt et)) (hd : eqDesc P f kt = some d) (hf : f < 10000) (hck : ∀ e, (Instr.checkKey e 10000 kt k').run P w = .ok () w) : v = .undef ∧ ∃ (es2' : List MapEntry) (clock2 : Nat), (Instr.mapUpdate t (.map (some r0)) k' y').run P w = .ok () { w with heap := w.heap.setIfInBounds r0 (.map es2'.toArray clock2) } ∧ After ρ st w ρ st' { w with heap := w.heap.setIfInBounds r0 (.map es2'.toArray clock2) } := by
  obtain ⟨l, clock, es', h1, h2, h3, h4, h5, h6, h7⟩ := hw.lmap hmm hr0
  obtain ⟨s1, s2, s3⟩ := h5
  unfold pUpdL at h
  split at h
  · rename_i a ha
    unfold keyA at ha
    split at ha
    · cases ha
      obtain ⟨r', f1, f2⟩ := lfind_sound (P := P) (w := w) hd hf hk (fun e he => h3 e (h2.mem_iff.1 he)) h6 h7
      have hk' := intKey hk
      subst hk'
      cases hg : lget a es with
      | none =>
        rw [hg] at h; cases h
        cases r' with
        | some p =>
          obtain ⟨j, u'⟩ := p
          obtain ⟨e1, e', g1, g2, g3, g4⟩ := f2
          exact absurd g3 (lget_none hg e1 (h2.mem_iff.1 (List.mem_of_getElem? g1)))
        | none =>
          have hnew : ∀ e' ∈ es', e'.key ≠ .int .i64 a := by
            intro e' he' hh
            obtain ⟨i, hi, rfl⟩ := List.getElem_of_mem he'
            have hlt : i < l.length := by omega
            have hv := (h7 i l[i] _ (List.getElem?_eq_getElem hlt) (List.getElem?_eq_getElem hi)).1
            obtain ⟨n, hn⟩ := h3 _ (h2.mem_iff.1 (List.getElem_mem hlt))
            rw [hn, hh] at hv
            cases hv
            exact f2 _ (List.getElem_mem hlt) hn
          refine ⟨rfl, es' ++ [{ key := Value.int IntKind.i64 a, val := y', born := clock }], clock + 1, ?_, ?_⟩
          · simp only [Instr.mapUpdate, Sem.run_bind, run_underlying hu, Result.andThen_ok, run_getObj_map h1, hck, f1, run_setObj_map h1]
            simp
          refine After.lmapSet (es2 := es ++ [(CV.int IntKind.i64 a, y, 0)]) (l2 := l ++ [(CV.int IntKind.i64 a, y, 0)]) (clock2 := clock + 1) (es2' := es' ++ [{ key := Value.int IntKind.i64 a, val := y', born := clock }]) hw hmm hr0 (h2.append_right _) ?_ ?_ ⟨?_, ?_, ?_⟩ (by simp [h6]) ?_
          · intro e he
            rcases List.mem_append.1 he with he | he
            · exact h3 e he
            · rw [List.mem_singleton.1 he]; exact ⟨a, rfl⟩
          · rw [List.map_append, List.nodup_append]
            refine ⟨h4, by simp, ?_⟩
            intro x hx y hy hxy
            obtain ⟨e, he, rfl⟩ := List.mem_map.1 hx
            simp at hy; subst hy
            exact lget_none hg e he hxy
          · intro x hx
            rw [List.mem_append] at hx
            rcases hx with hx | hx
            · have := s1 x hx; omega
            · rw [List.mem_singleton.1 hx]; exact Nat.lt_succ_self _
          · rw [List.map_append, List.nodup_append]
            refine ⟨s2, by simp, ?_⟩
            intro x hx y hy hxy
            obtain ⟨e, he, rfl⟩ := List.mem_map.1 hx
            simp at hy; subst hy
            have := s1 e he; omega
          · rw [List.map_append, List.nodup_append]
            refine ⟨s3, by simp, ?_⟩
            intro x hx y hy hxy
            obtain ⟨e, he, rfl⟩ := List.mem_map.1 hx
            simp at hy; subst hy
            exact hnew e he hxy
          · intro i e e' a1 a2
            rcases Nat.lt_or_ge i l.length with hlt | hge
            · rw [List.getElem?_append_left hlt] at a1
              rw [List.getElem?_append_left (by omega)] at a2
              exact h7 i e e' a1 a2
            · rw [List.getElem?_append_right hge] at a1
              rw [List.getElem?_append_right (by omega), ← h6] at a2
              generalize i - l.length = q at a1 a2
              cases q with
              | zero => simp at a1 a2; subst a1; subst a2; exact ⟨hk, hy⟩
              | succ q => simp at a1
      | some u =>
        rw [hg] at h; cases h
        obtain ⟨e, he, he1, he2⟩ := lget_some hg
        cases r' with
        | none => exact absurd he1 (f2 e (h2.mem_iff.2 he))
        | some p =>
          obtain ⟨j, u'⟩ := p
          obtain ⟨e1, e', g1, g2, g3, g4⟩ := f2
          have hkey : e'.key = .int .i64 a := by
            have hv := (h7 j _ _ g1 g2).1
            rw [g3] at hv; exact intKey hv
          have hml : ∀ (l : List Ent), (lupd a y l).map (·.1) = l.map (·.1) := by
            intro l
            rw [lupd_map, List.map_map]
            apply List.map_congr_left
            intro x _
            show (if isA a x.1 = true then (x.1, y, x.2.2) else x).1 = x.1
            split <;> rfl
          have hkeys : ((es'.modify j fun e => { e with key := .int .i64 a, val := y' }).map (·.key)) = es'.map (·.key) := by
            apply List.ext_getElem?
            intro i
            rw [List.getElem?_map, List.getElem?_map, List.getElem?_modify]
            by_cases hij : j = i
            · subst hij
              rw [g2]; simp [hkey]
            · simp [hij]
          have hborns : ((es'.modify j fun e => { e with key := .int .i64 a, val := y' }).map (·.born)) = es'.map (·.born) := by
            apply List.ext_getElem?
            intro i
            rw [List.getElem?_map, List.getElem?_map, List.getElem?_modify]
            by_cases hij : j = i
            · subst hij
              rw [g2]; simp
            · simp [hij]
          refine ⟨rfl, es'.modify j fun e => { e with key := .int .i64 a, val := y' }, clock, ?_, ?_⟩
          · have hsb : Instr.sameBits 10000 (.int .i64 a) (.int .i64 a) = true := by simp [Instr.sameBits]
            simp only [Instr.mapUpdate, Sem.run_bind, run_underlying hu, Result.andThen_ok, run_getObj_map h1, hck, f1, Instr.keyThatStays, List.getElem?_toArray, g2, Option.map_some, Option.getD_some, hkey, hsb, if_true, Sem.run_pure, run_setObj_map h1]
            simp
          refine After.lmapSet (l2 := lupd a y l) (clock2 := clock) (es2' := es'.modify j fun e => { e with key := .int .i64 a, val := y' }) hw hmm hr0 (by rw [lupd_map, lupd_map]; exact h2.map _) ?_ (by rw [hml]; exact h4) ⟨?_, ?_, ?_⟩ (by rw [lupd_map]; simp [h6]) ?_
          · intro x hx
            rw [lupd_map, List.mem_map] at hx
            obtain ⟨x0, hx0, rfl⟩ := hx
            obtain ⟨n, hn⟩ := h3 x0 hx0
            split
            · exact ⟨n, hn⟩
            · exact ⟨n, hn⟩
          · intro x hx
            have : x.born ∈ (es'.modify j fun e => { e with key := .int .i64 a, val := y' }).map (·.born) := List.mem_map_of_mem hx
            rw [hborns, List.mem_map] at this
            obtain ⟨x0, hx0, e0⟩ := this
            rw [← e0]; exact s1 x0 hx0
          · show ((es'.modify j fun e => { e with key := .int .i64 a, val := y' }).map (·.born)).Nodup
            rw [hborns]; exact s2
          · show ((es'.modify j fun e => { e with key := .int .i64 a, val := y' }).map (·.key)).Nodup
            rw [hkeys]; exact s3
          · intro i x x' a1 a2
            rw [lupd_map, List.getElem?_map] at a1
            rw [List.getElem?_modify] at a2
            by_cases hij : j = i
            · subst hij
              rw [g1] at a1
              rw [g2] at a2
              simp at a1 a2
              subst a2
              rw [if_pos (isA_iff.2 g3)] at a1
              subst a1
              exact ⟨by rw [g3]; exact hk, hy⟩
            · cases hli : l[i]? with
              | none => rw [hli] at a1; simp at a1
              | some x0 =>
                rw [hli] at a1
                have a2' : es'[i]? = some x' := by simpa [hij] using a2
                obtain ⟨b1, b2⟩ := h7 i x0 x' hli a2'
                have hne : ¬ isA a x0.1 = true := by
                  intro hh
                  have hx0 := isA_iff.1 hh
                  -- two places of one key
                  rw [hx0] at b1
                  have hk0 := intKey b1
                  have hlt1 := (List.getElem?_eq_some_iff.1 g2).1
                  have hlt2 := (List.getElem?_eq_some_iff.1 a2').1
                  have hnd := List.pairwise_iff_getElem.1 s3
                  have e1 : (es'.map (·.key))[j]'(by simpa using hlt1) = .int .i64 a := by
                    have := (List.getElem?_eq_some_iff.1 g2).2
                    rw [List.getElem_map, this, hkey]
                  have e2 : (es'.map (·.key))[i]'(by simpa using hlt2) = .int .i64 a := by
                    have := (List.getElem?_eq_some_iff.1 a2').2
                    rw [List.getElem_map, this, hk0]
                  rcases Nat.lt_or_ge j i with hji | hji
                  · exact hnd j i (by simpa using hlt1) (by simpa using hlt2) hji (by exact e1.trans e2.symm)
                  · exact hnd i j (by simpa using hlt2) (by simpa using hlt1) (by omega) (by exact e2.trans e1.symm)
                simp only [Option.map_some, Option.some.injEq] at a1
                rw [if_neg hne] at a1
                subst a1
                exact ⟨b1, b2⟩
    · cases ha
  · cases h
theorem pUpdL_sound {d : EqD} {b : Bp} {es : List Ent} {t kt et : TypeId} {f r0 sz : Nat} {k y : CV} {k' y' : Value} (h : pUpdL d b es k y st = .ok v st') (hw : WR ρ st w) (hmm : st.mem.get b = some (.lmap es)) (hr0 : ρ b = some (r0, sz)) (hk : VR ρ k k') (hy : VR ρ y y')
    (hu : P.underlying t = some (.map kt et)) (hd : eqDesc P f kt = some d) (hf : f < 10000) (hck : ∀ e, (Instr.checkKey e 10000 kt k').run P w = .ok () w) : DoesU P (Instr.mapUpdate t (.map (some r0)) k' y') ρ st w v st' := by
  obtain ⟨h1, es2, clock2, h2, h3⟩ := pUpdL_run h hw hmm hr0 hk hy hu hd hf hck
  exact ⟨_, ρ, h2, h1, h3⟩
theorem pMapUpdate_sound {d : EqD} {t kt et : TypeId} {f m : Nat} {x k y : CV} {x' k' y' : Value} (h : pMapUpdate d x k y st = .ok v st') (hw : WR ρ st w) (hx : VR ρ x x') (hk : VR ρ k k') (hy : VR ρ y y')
    (hu : P.underlying t = some (.map kt et)) (hd : eqDesc P f kt = some d) (hf : f < 10000) (hm : deepKey m d = true) : DoesU P (Instr.mapUpdate t x' k' y') ρ st w v st' := by
  unfold pMapUpdate at h
  rw [bsel_eq] at h
  split at h
  · rename_i hik
    have hck := fun e => isKey_sound (w := w) hik hd hf hm hk e
    split at h
    · rename_i b
      split at h
      · rename_i es hmm
        cases hx with
        | map _ r0 sz hr0 => exact pUpdL_sound h hw hmm hr0 hk hy hu hd hf hck
      · rename_i es clock hmm
        cases hx with
        | map _ r0 sz hr0 =>
          obtain ⟨es', h1, h2, h3⟩ := hw.map hmm hr0
          cases hc : cfind d k es 0 with
          | none => rw [hc] at h; cases h
          | some r =>
            rw [hc] at h
            obtain ⟨r', f1, f2⟩ := find_sound (P := P) (w := w) hd hf hk h2 h3 hc
            cases r with
            | none =>
              cases r' with
              | some _ => exact f2.elim
              | none =>
                dsimp only at h
                rw [forceN_eq] at h; cases h
                refine ⟨_, ρ, ?_, rfl, After.mapSet (clock2 := clock + 1) hw hmm hr0 (EsR.app ⟨h2, h3⟩ (EsR.cons (e := (k, y, clock)) (e' := { key := k', val := y', born := clock }) ⟨hk, hy, rfl⟩ EsR.nil))⟩
                simp only [Instr.mapUpdate, Sem.run_bind, run_underlying hu, Result.andThen_ok, run_getObj_map h1, hck, f1, run_setObj_map h1]
                simp
            | some p =>
              obtain ⟨j, u⟩ := p
              cases r' with
              | none => exact f2.elim
              | some p' =>
                obtain ⟨j', u'⟩ := p'
                obtain ⟨rfl, g2, e, e', g3, g4, g5, g6⟩ := f2
                dsimp only at h
                rw [entAt_eq, g3] at h
                obtain ⟨k0, u0, born⟩ := e
                dsimp only at h
                rw [bsel_eq] at h
                split at h
                · rename_i hs
                  cases h
                  obtain ⟨a1, a2, a3⟩ := h3 j _ _ g3 g4
                  obtain ⟨s1, s2⟩ := sameC_sound hs a1 hk
                  refine ⟨_, ρ, ?_, rfl, After.mapSet (clock2 := clock) hw hmm hr0 (EsR.mod (e := (k, y, born)) (f := fun e => { e with key := k', val := y' }) j ⟨h2, h3⟩ (fun e2 he2 => by
                    rw [g4] at he2; cases he2; exact ⟨hk, hy, a3⟩))⟩
                  simp only [Instr.mapUpdate, Sem.run_bind, run_underlying hu, Result.andThen_ok, run_getObj_map h1, hck, f1, Instr.keyThatStays, List.getElem?_toArray, g4, Option.map_some, Option.getD_some, s2, if_true, Sem.run_pure, run_setObj_map h1]
                  simp
                · cases h
      · cases h
    · cases h
  · cases h

theorem pMapEntry_sound {d : EqD} {z : CV} {t kt et : TypeId} {f m : Nat} {i : TypeInfo} {z' : Value} {x k : CV} {x' k' : Value} (h : pMapEntry d z x k st = .ok v st') (hw : WR ρ st w) (hx : VR ρ x x') (hk : VR ρ k k')
    (hu : P.underlying t = some (.map kt et)) (hd : eqDesc P f kt = some d) (hf : f < 10000) (hm : deepKey m d = true) (hi : P.info? et = some i) (hz : i.zero = some z') (hzz : VR ρ z z') : DoesV P (Instr.mapEntry t x' k') ρ st w v st' := by
  have hzv : (zeroValue et).run P w = .ok z' w := by simp [zeroValue, typeInfo, hi, hz]
  unfold pMapEntry at h
  rw [bsel_eq] at h
  split at h
  · rename_i hik
    have hck := fun e => isKey_sound (w := w) hik hd hf hm hk e
    split at h
    · rename_i b
      split at h
      · rename_i es clock hmm
        cases hx with
        | map _ r0 sz hr0 =>
          obtain ⟨es', h1, h2, h3⟩ := hw.map hmm hr0
          cases hc : cfind d k es 0 with
          | none => rw [hc] at h; cases h
          | some r =>
            rw [hc] at h
            obtain ⟨r', f1, f2⟩ := find_sound (P := P) (w := w) hd hf hk h2 h3 hc
            cases r with
            | none =>
              cases r' with
              | some _ => exact f2.elim
              | none =>
                dsimp only at h
                rw [forceN_eq] at h; cases h
                refine ⟨.tuple #[z', goInt clock], _, ρ, ?_, VR.tuple' (VRs.two hzz (.int .i64 _)), After.mapSet (clock2 := clock + 1) hw hmm hr0 (EsR.app ⟨h2, h3⟩ (EsR.cons (e := (k, z, clock)) (e' := { key := k', val := z', born := clock }) ⟨hk, hzz, rfl⟩ EsR.nil))⟩
                simp only [Instr.mapEntry, Sem.run_bind, run_underlying hu, Result.andThen_ok, run_getObj_map h1, hck, f1, hzv, run_setObj_map h1, Sem.run_pure]
                simp
            | some p =>
              obtain ⟨j, u⟩ := p
              cases r' with
              | none => exact f2.elim
              | some p' =>
                obtain ⟨j', u'⟩ := p'
                obtain ⟨rfl, g2, e, e', g3, g4, g5, g6⟩ := f2
                dsimp only at h
                rw [entAt_eq, g3] at h
                obtain ⟨k0, u0, born⟩ := e
                dsimp only at h
                rw [bsel_eq] at h
                split at h
                · rename_i hs
                  cases h
                  obtain ⟨a1, a2, a3⟩ := h3 j _ _ g3 g4
                  obtain ⟨s1, s2⟩ := sameC_sound hs a1 hk
                  have a3' : born = e'.born := a3
                  refine ⟨.tuple #[u', goInt e'.born], _, ρ, ?_, VR.tuple' (VRs.two g2 (by rw [a3']; exact .int .i64 _)), After.mapSet (clock2 := clock) hw hmm hr0 (EsR.mod (e := (k, u, born)) (f := fun e => { e with key := k' }) j ⟨h2, h3⟩ (fun e2 he2 => by
                    rw [g4] at he2; cases he2; exact ⟨hk, by rw [g6]; exact g2, a3⟩))⟩
                  simp only [Instr.mapEntry, Sem.run_bind, run_underlying hu, Result.andThen_ok, run_getObj_map h1, hck, f1, Instr.keyThatStays, List.getElem?_toArray, g4, Option.map_some, Option.getD_some, s2, if_true, Sem.run_pure, run_setObj_map h1]
                  simp
                · cases h
      · cases h
    · cases h
  · cases h

theorem bornAt_sound {born : Nat} : ∀ {es : List Ent} {es' : List MapEntry} {j i : Nat} {e : Ent}, EsR ρ es es' → bornAt born es j = some (i, e) →
    j ≤ i ∧ es[i - j]? = some e ∧ es'.findIdx? (fun e => (e.born : Int) == (born : Int)) = some (i - j) := by
  intro es
  induction es with
  | nil => intro es' j i e _ h; cases h
  | cons x es ih =>
    intro es' j i e h hb
    obtain ⟨x', t', rfl, h1, h2⟩ := h.inv
    have e0 : bornAt born (x :: es) j = bsel (Nat.beq x.2.2 born) (some (j, x)) (bornAt born es (j + 1)) := rfl
    simp only [e0, bsel_eq, Nat.beq_eq] at hb
    split at hb
    · rename_i hq
      cases hb
      refine ⟨Nat.le_refl _, by simp, ?_⟩
      rw [List.findIdx?_cons]
      have : ((x'.born : Int) == (born : Int)) = true := by rw [beq_iff_eq, ← h1.2.2, hq]
      simp [this]
    · rename_i hq
      obtain ⟨a1, a2, a3⟩ := ih h2 hb
      refine ⟨by omega, by rw [show i - j = (i - (j + 1)) + 1 by omega]; simpa using a2, ?_⟩
      rw [List.findIdx?_cons]
      have : ((x'.born : Int) == (born : Int)) = false := by
        rw [beq_eq_false_iff_ne, ← h1.2.2]; exact fun e => hq (by exact_mod_cast e)
      simp only [this, Bool.false_eq_true, if_false, a3, Option.map_some]
      congr 1; omega

theorem pEntryStore_sound {t : TypeId} {x s y : CV} {x' s' y' : Value} (h : pEntryStore x s y st = .ok v st') (hw : WR ρ st w) (hx : VR ρ x x') (hs : VR ρ s s') (hy : VR ρ y y') : DoesU P (Instr.entryStore t x' s' y') ρ st w v st' := by
  unfold pEntryStore at h
  split at h
  · rename_i b k born
    split at h
    · rename_i es clock hmm
      cases hs
      cases hx with
      | map _ r0 sz hr0 =>
        obtain ⟨es', h1, h2, h3⟩ := hw.map hmm hr0
        split at h
        · rename_i j k0 u0 bn hb
          cases h
          obtain ⟨a1, a2, a3⟩ := bornAt_sound (ρ := ρ) (es' := es') ⟨h2, h3⟩ hb
          rw [Nat.sub_zero] at a2 a3
          refine ⟨_, ρ, ?_, rfl, After.mapSet (clock2 := clock) hw hmm hr0 (EsR.mod (e := (k0, y, bn)) (f := fun e => { e with val := y' }) j ⟨h2, h3⟩ (fun e2 he2 => by
            obtain ⟨b1, b2, b3⟩ := h3 j _ _ a2 he2; exact ⟨b1, hy, b3⟩))⟩
          simp only [Instr.entryStore, Sem.run_bind, run_getObj_map h1, Result.andThen_ok, asInt, asIntOf, Sem.run_pure]
          have : es'.toArray.findIdx? (fun e => (e.born : Int) == Int.ofNat born) = some j := by
            rw [← a3]; simp
          rw [this]
          simp only [run_setObj_map h1]
          simp
        · cases h
    · cases h
  · cases h

theorem set_self {r : Nat} {o : Obj} {w : World} (h : w.heap[r]? = some o) : ({ w with heap := w.heap.setIfInBounds r o } : World) = w := by
  have : w.heap.setIfInBounds r o = w.heap := by
    apply Array.ext_getElem?
    intro i
    by_cases e : r = i
    · subst e
      have := (Array.getElem?_eq_some_iff.1 h).1
      rw [h]; simp [this]
    · rw [Array.getElem?_setIfInBounds_ne e]
  rw [this]

theorem pDelete_sound {d : EqD} {t kt et ty : TypeId} {f m : Nat} {x k : CV} {x' k' : Value} {ats : Array TypeId} (hat : ats[0]? = some t) (h : pDelete d x k st = .ok v st') (hw : WR ρ st w) (hx : VR ρ x x') (hk : VR ρ k k')
    (hu : P.underlying t = some (.map kt et)) (hd : eqDesc P f kt = some d) (hf : f < 10000) (hm : deepKey m d = true) : DoesV P (Builtin.delete_ ats ty #[x', k']) ρ st w v st' := by
  have hun : VR ρ .undef (.tuple #[]) := .undef
  unfold pDelete at h
  rw [bsel_eq] at h
  split at h
  · rename_i hik
    have hck := fun e => isKey_sound (w := w) hik hd hf hm hk e
    split at h
    · cases h; cases hx
      exact DoesV.still hw (by simp [Builtin.delete_, hat, run_underlying hu, hck]) hun
    · rename_i b
      split at h
      · rename_i es clock hmm
        cases hx with
        | map _ r0 sz hr0 =>
          obtain ⟨es', h1, h2, h3⟩ := hw.map hmm hr0
          cases hc : cfind d k es 0 with
          | none => rw [hc] at h; cases h
          | some r =>
            rw [hc] at h
            obtain ⟨r', f1, f2⟩ := find_sound (P := P) (w := w) hd hf hk h2 h3 hc
            cases r with
            | none =>
              cases r' with
              | some _ => exact f2.elim
              | none =>
                cases h
                refine DoesV.still hw ?_ hun
                simp only [Builtin.delete_, hat, List.getElem?_toArray, List.getElem?_cons_zero, List.getElem?_cons_succ, Sem.run_bind, run_underlying hu, Result.andThen_ok, run_getObj_map h1, hck, f1, run_setObj_map h1, Sem.run_pure]
                rw [set_self h1]
            | some p =>
              obtain ⟨j, u⟩ := p
              cases r' with
              | none => exact f2.elim
              | some p' =>
                obtain ⟨j', u'⟩ := p'
                obtain ⟨rfl, g2, e, e', g3, g4, g5, g6⟩ := f2
                cases h
                refine ⟨.tuple #[], _, ρ, ?_, .undef, After.mapSet (clock2 := clock) hw hmm hr0 (EsR.del j ⟨h2, h3⟩)⟩
                simp only [Builtin.delete_, hat, List.getElem?_toArray, List.getElem?_cons_zero, List.getElem?_cons_succ, Sem.run_bind, run_underlying hu, Result.andThen_ok, run_getObj_map h1, hck, f1, run_setObj_map h1, Sem.run_pure]
                congr 3
                congr 1
                apply Array.ext'
                simp
      · cases h
    · cases h
  · cases h

theorem pMkMap_sound {t kt et : TypeId} {r : Option CV} {r' : Option Value} (h : pMkMap r st = .ok v st') (hw : WR ρ st w) (hr : BR2 ρ r r') (hu : P.underlying t = some (.map kt et)) : DoesV P (Instr.makeMap t r') ρ st w v st' := by
  have key : ∀ n, OR.ok (.map st.next) ⟨st.mem.put st.next (some (.map [] 0)), st.next.succ⟩ = OR.ok v st' → n = w.heap.size → (Instr.makeMap t r').run P w = .ok (.map (some w.heap.size)) { w with heap := w.heap.push (.map #[] 0) } → DoesV P (Instr.makeMap t r') ρ st w v st' := by
    intro n h _ hrun
    cases h
    have ha := After.new hw (BR.map (ρ := ρ.set st.next (w.heap.size, 0)) [] 0 [] rfl (fun i e e' h => by simp at h) 0)
    exact ⟨_, _, _, hrun, .map _ _ _ ha.2, ha.1⟩
  unfold pMkMap at h
  split at h
  · rw [forceB_eq] at h
    cases r' with
    | some _ => exact hr.elim
    | none => exact key _ h rfl (by simp [Instr.makeMap])
  · rw [forceB_eq] at h
    cases r' with
    | none => exact hr.elim
    | some x' =>
      have hr' : VR ρ _ x' := hr
      cases hr'
      exact key _ h rfl (by simp [Instr.makeMap, run_underlying hu, asInt, asIntOf])
  · cases h
end
end Sim

/- Sim, part 16: composite literals, functions as values. -/
namespace Sim
open Go

abbrev Part := Nat × Nat × CV
noncomputable def fillS (parts : List Part) : Segs CV → Option (Segs CV) :=
  List.rec (motive := fun _ => Segs CV → Option (Segs CV)) (fun s => some s)
    (fun p _ ih s => (fun x : Segs CV => bsel (Nat.beq x.size p.2.1) (Option.rec none (fun s' => ih s') (s.write p.1 x)) none) p.2.2.segs) parts
noncomputable def listS (l : List CV) : Segs CV := List.rec .nil (fun v _ r => .one v r) l
theorem row_listS (l : List CV) : row (listS l) = l := by
  induction l with
  | nil => rfl
  | cons v l ih => show v :: row (listS l) = _; rw [ih]

theorem foldl_set (off : Nat) : ∀ (l : List Value) (k : Nat) (cells : Array Value), off + k + l.length ≤ cells.size →
    ((l.zipIdx k).foldl (fun cs (p : Value × Nat) => cs.setIfInBounds (off + p.2) p.1) cells).toList = cells.toList.take (off + k) ++ l ++ cells.toList.drop (off + k + l.length) := by
  intro l
  induction l with
  | nil => intro k cells _; simp
  | cons v l ih =>
    intro k cells h
    rw [List.zipIdx_cons, List.foldl_cons, ih (k + 1) _ (by simp at h ⊢; omega)]
    have e := list_seg_step cells.toList (off + k) v l (by simp at h ⊢; omega)
    simp only [Array.toList_setIfInBounds]
    rw [← Nat.add_assoc, e]
    simp

section
variable {P : Program} {ρ : Ren} {st st' : St} {w : World} {v : CV}

/-- Parts on both sides: the clean ones know their places. -/
inductive PartsR (ρ : Ren) (place : Nat → Option (Nat × Nat)) : List Part → List (Nat × Value) → Prop where
  | nil : PartsR ρ place [] []
  | cons (i off size : Nat) (x : CV) (x' : Value) (l : List Part) (l' : List (Nat × Value)) (hp : place i = some (off, size)) (hx : VR ρ x x') (t : PartsR ρ place l l') :
      PartsR ρ place ((off, size, x) :: l) ((i, x') :: l')

theorem fill_sound {place : Nat → Option (Nat × Nat)} {parts : List Part} {parts' : List (Nat × Value)} (h : PartsR ρ place parts parts') : ∀ {s s' : Segs CV} {cells : Array Value}, fillS parts s = some s' → VRs ρ (row s) cells.toList →
    ∃ cells', Instr.fill place cells parts' = some cells' ∧ VRs ρ (row s') cells'.toList := by
  induction h with
  | nil => intro s s' cells h hv; cases h; exact ⟨cells, rfl, hv⟩
  | cons i off size x x' l l' hp hx t ih =>
    intro s s' cells h hv
    have e0 : fillS ((off, size, x) :: l) s = bsel (Nat.beq x.segs.size size) (Option.rec none (fun s' => fillS l s') (s.write off x.segs)) none := rfl
    simp only [e0, bsel_eq, Nat.beq_eq] at h
    split at h
    · rename_i hsz
      cases hw : s.write off x.segs with
      | none => rw [hw] at h; cases h
      | some s2 =>
        rw [hw] at h
        obtain ⟨w1, w2⟩ := Segs.write_some hw
        have hxs := hx.segs
        have hlen : x'.cells.size = size := by have := hxs.len; rw [row_length, hsz] at this; simpa using this.symm
        have hcs : cells.size = s.size := by have := hv.len; rw [row_length] at this; simpa using this.symm
        have hfit : off + x'.cells.size ≤ cells.size := by omega
        let cells2 := x'.cells.zipIdx.foldl (fun cs (p : Value × Nat) => cs.setIfInBounds (off + p.2) p.1) cells
        have hc2 : cells2.toList = cells.toList.take off ++ (x'.cells.toList ++ cells.toList.drop (off + x'.cells.size)) := by
          have := foldl_set off x'.cells.toList 0 cells (by simpa using hfit)
          show (Array.foldl _ cells x'.cells.zipIdx).toList = _
          rw [← Array.foldl_toList, Array.toList_zipIdx, this]
          simp
        obtain ⟨cells', f1, f2⟩ := ih (cells := cells2) h (by
          rw [show row s2 = _ from w2 byteV, hc2]
          have e1 : x.segs.size = x'.cells.size := by rw [hsz, hlen]
          rw [e1]
          exact (hv.take off).app (hxs.app (hv.drop _)))
        refine ⟨cells', ?_, f2⟩
        simp only [Instr.fill, hp]
        rw [if_neg (by simp [hlen]; omega)]
        exact f1
    · cases h

noncomputable def pBuild (z : Segs CV) (parts : List Part) (st : St) : OR := Option.rec .bad (fun s => s.force fun s => .ok (.agg s) st) (fillS parts z)
noncomputable def pBuildSlice (e len : Nat) (z : Segs CV) (parts : List Part) (st : St) : OR :=
  Option.rec .bad (fun s => s.force fun s => forceB st.next.succ fun n => .ok (.slice st.next 0 len len 0) ⟨st.mem.put st.next (some (.cells s e false)), n⟩) (fillS parts z)

theorem run_mapM_list {β γ : Type} (l : List β) (f : β → Sem γ) (g : β → γ) (h : ∀ x ∈ l, (f x).run P w = .ok (g x) w) : (l.mapM f).run P w = .ok (l.map g) w := by
  induction l with
  | nil => simp
  | cons a l ih => simp [List.mapM_cons, h a (by simp), ih (fun x hx => h x (by simp [hx]))]

theorem run_mapM_array {β γ : Type} (l : Array β) (f : β → Sem γ) (g : β → γ) (h : ∀ x ∈ l.toList, (f x).run P w = .ok (g x) w) : (l.mapM f).run P w = .ok (l.map g) w := by
  rw [Array.mapM_eq_mapM_toList, Sem.run_map, run_mapM_list l.toList f g h]
  simp only [Result.andThen_ok]
  congr 1
  apply Array.ext'
  simp

/-- Where the fields of a struct lie. -/
def placeF (P : Program) (fs : Array Field) (i : Nat) : Option (Nat × Nat) := (fs[i]?).map fun f => (f.offset, P.cellsOf f.type)
def placeA (size : Nat) (i : Nat) : Option (Nat × Nat) := some (i * size, size)

theorem pBuild_struct {t : TypeId} {fs : Array Field} {i : TypeInfo} {z : Segs CV} {z' : Value} {parts : List Part} {parts' : Array (Nat × Value)} (h : pBuild z parts st = .ok v st') (hw : WR ρ st w) (hu : P.underlying t = some (.struct fs)) (hi : P.info? t = some i)
    (hz : i.zero = some z') (hzz : ∀ ρ, VRs ρ (row z) z'.cells.toList) (hp : PartsR ρ (placeF P fs) parts parts'.toList) (hinfo : ∀ f ∈ fs.toList, ∃ j, P.info? f.type = some j) : DoesV P (Instr.build t parts') ρ st w v st' := by
  unfold pBuild at h
  cases hf : fillS parts z with
  | none => rw [hf] at h; cases h
  | some s =>
    rw [hf] at h
    dsimp only at h
    rw [Segs.force_eq] at h; cases h
    obtain ⟨cells', f1, f2⟩ := fill_sound hp hf (hzz ρ)
    refine DoesV.still hw (v' := .agg cells') ?_ (by have := VR.agg' f2; simpa using this)
    have hm := run_mapM_array (P := P) (w := w) fs (fun f => do pure (f.offset, ← Go.sizeOf f.type)) (fun f => (f.offset, P.cellsOf f.type)) (fun f hf => by
      obtain ⟨j, hj⟩ := hinfo f hf
      simp [Go.sizeOf, typeInfo, hj, Program.cellsOf])
    have hpl : (fun i => (fs.map fun f => (f.offset, P.cellsOf f.type))[i]?) = placeF P fs := by
      funext i; simp [placeF]
    simp only [Instr.build, zeroValue, typeInfo, Sem.run_bind, run_program, Result.andThen_ok, hi, hz, Sem.run_pure, run_underlying hu]
    rw [hm]
    simp only [Result.andThen_ok]
    rw [hpl, f1]
    rfl

theorem pBuild_array {t e : TypeId} {n : Nat} {i j : TypeInfo} {z : Segs CV} {z' : Value} {parts : List Part} {parts' : Array (Nat × Value)} (h : pBuild z parts st = .ok v st') (hw : WR ρ st w) (hu : P.underlying t = some (.array n e)) (hi : P.info? t = some i)
    (hz : i.zero = some z') (hzz : ∀ ρ, VRs ρ (row z) z'.cells.toList) (hj : P.info? e = some j) (hp : PartsR ρ (placeA j.size) parts parts'.toList) : DoesV P (Instr.build t parts') ρ st w v st' := by
  unfold pBuild at h
  cases hf : fillS parts z with
  | none => rw [hf] at h; cases h
  | some s =>
    rw [hf] at h
    dsimp only at h
    rw [Segs.force_eq] at h; cases h
    obtain ⟨cells', f1, f2⟩ := fill_sound hp hf (hzz ρ)
    refine DoesV.still hw (v' := .agg cells') ?_ (by have := VR.agg' f2; simpa using this)
    have hpl : (fun i => some (i * j.size, j.size)) = placeA j.size := rfl
    simp only [Instr.build, zeroValue, Go.sizeOf, typeInfo, Sem.run_bind, run_program, Result.andThen_ok, hi, hj, hz, Sem.run_pure, run_underlying hu]
    rw [hpl, f1]
    rfl

theorem pBuildSlice_sound {t e : TypeId} {len : Nat} {i : TypeInfo} {z : Segs CV} {z' : Value} {parts : List Part} {parts' : Array (Nat × Value)} (h : pBuildSlice e len (repS len z) parts st = .ok v st') (hw : WR ρ st w) (hu : P.underlying t = some (.slice e)) (hi : P.info? e = some i)
    (hz : i.zero = some z') (hsz : z'.cells.size = i.size) (hzz : ∀ ρ, VRs ρ (row z) z'.cells.toList) (hp : PartsR ρ (placeA i.size) parts parts'.toList) (hlen : len * i.size ≤ 16777216) : DoesV P (Instr.buildSlice t len parts') ρ st w v st' := by
  unfold pBuildSlice at h
  cases hf : fillS parts (repS len z) with
  | none => rw [hf] at h; cases h
  | some s =>
    rw [hf] at h
    dsimp only at h
    rw [Segs.force_eq, forceB_eq] at h; cases h
    have hrow : (List.replicate len z'.cells.toList).flatten = ((Array.range (len * i.size)).map (z'.cells[· % z'.cells.size]!)).toList := by
      rw [← hsz, Array.toList_map, Array.toList_range]; exact (range_mod z'.cells len).symm
    have hvz : VRs ρ (row (repS len z)) ((Array.range (len * i.size)).map (z'.cells[· % z'.cells.size]!)).toList := by
      rw [row_repS, ← hrow]; exact (hzz ρ).flatten len
    obtain ⟨cells', f1, f2⟩ := fill_sound hp hf hvz
    obtain ⟨ρ', h1, h2, h3⟩ := After.newRow (P := P) (t := e) (s := s) (l := cells'.toList) hw (fun ρ' hle => f2.mono hle) false
    rw [Array.toArray_toList] at h1 h3
    refine ⟨.slice (some ⟨w.heap.size, 0, none⟩) len len, _, ρ', ?_, .slice _ _ _ _ _ _ h2, h3⟩
    have hpl : (fun k => some (k * i.size, i.size)) = placeA i.size := rfl
    have hn : ¬ (len * i.size > 2 ^ 24) := by show ¬ (len * i.size > 16777216); omega
    simp only [Instr.buildSlice, Sem.run_bind, run_underlying hu, Result.andThen_ok, Go.sizeOf, typeInfo, run_program, hi, Sem.run_pure, if_neg hn]
    by_cases h0 : len * i.size = 0
    · have hz0 : ((Array.range (len * i.size)).map (z'.cells[· % z'.cells.size]!)) = ((Array.range (len * i.size)).map ((#[] : Array Value)[· % (#[] : Array Value).size]!)) := by
        rw [h0, Array.range_zero']; simp
      rw [hz0] at f1
      rw [if_pos h0]
      show Sem.run P (do
        let some cells := Instr.fill (placeA i.size) ((Array.range (len * i.size)).map ((#[] : Array Value)[· % (#[] : Array Value).size]!)) parts'.toList | stuck "buildSlice: a part of the wrong size"
        pure (Value.slice (some (← newRow e cells)) len len)) w = _
      rw [f1]
      simp only [Sem.run_bind, h1, Result.andThen_ok, Sem.run_pure]
    · rw [if_neg h0]
      simp only [zeroValue, typeInfo, Sem.run_bind, run_program, Result.andThen_ok, hi, hz, Sem.run_pure]
      rw [hpl, f1]
      simp only [Sem.run_bind, h1, Result.andThen_ok, Sem.run_pure]

noncomputable def pFunc (fn : Fn) (f c : List CV) (st : St) : OR := (listS f).force fun f => (listS c).force fun c => .ok (.func fn f c) st
theorem pFunc_sound {fn : Fn} {f c : List CV} {f' c' : Array Value} (h : pFunc fn f c st = .ok v st') (hw : WR ρ st w) (hf : VRs ρ f f'.toList) (hc : VRs ρ c c'.toList) : DoesV P (Instr.makeFunc fn f' c') ρ st w v st' := by
  unfold pFunc at h
  rw [Segs.force_eq, Segs.force_eq] at h; cases h
  refine DoesV.still hw rfl ?_
  have := VR.func (ρ := ρ) fn (listS f) (listS c) f'.toList c'.toList (by rw [row_listS]; exact hf.len) (by rw [row_listS]; exact hc.len) (by rw [row_listS]; exact hf.at') (by rw [row_listS]; exact hc.at')
  simpa using this
end
end Sim

/- Sim, part 17: operations, compiled; what they do. -/
namespace Sim
open Go

abbrev PartA := Nat × Nat × CArg
inductive COp where
  | mov (x : CArg)
  | pick (c a b : CArg)
  | new (t : Nat) (z : Segs CV)
  | box (t : Nat) (x : CArg)
  | build (z : Segs CV) (parts : List PartA)
  | buildSlice (e len : Nat) (z : Segs CV) (parts : List PartA)
  | load1 (a : CArg)
  | loadN (n : Nat) (a : CArg)
  | store (n : Nat) (a x : CArg)
  | nil (x : CArg)
  | bin (op : BinOp) (d : Option EqD) (cst : Bool) (x y : CArg)
  | un (op : UnOp) (x : CArg)
  | conv (c : ConvK) (x : CArg)
  | s2ap (n : Nat) (x : CArg)
  | iface (t : Nat) (x : CArg)
  | func (fn : Fn) (f c : List CArg)
  | mkMap (r : Option CArg)
  | mkSlice (e bytes : Nat) (z : Segs CV) (l c : CArg)
  | sliceStr (x : CArg) (lo hi : Option CArg)
  | sliceSl (size : Nat) (x : CArg) (lo hi : Option CArg)
  | slice3 (size : Nat) (x : CArg) (lo : Option CArg) (hi mx : CArg)
  | sliceArr (n size : Nat) (x : CArg) (lo hi : Option CArg)
  | fieldAddr (off : Nat) (x : CArg)
  | field (agg : Bool) (off size : Nat) (x : CArg)
  | idxArr (n size : Nat) (x i : CArg)
  | idxSl (size : Nat) (x i : CArg)
  | idxStr (x i : CArg)
  | idxAgg (n size : Nat) (agg : Bool) (x i : CArg)
  | lookup (d : EqD) (z : CV) (ok : Bool) (x k : CArg)
  | mapUpdate (d : EqD) (m k x : CArg)
  | mapEntry (d : EqD) (z : CV) (m k : CArg)
  | entryStore (m s x : CArg)
  | extract (x : CArg) (i : Nat)
  | len (k : LenK) (x : CArg)
  | append (e size bytes : Nat) (z : Segs CV) (k : SrcK) (s x : CArg)
  | copy (str : Bool) (size : Nat) (d s : CArg)
  | clear (z : Segs CV) (x : CArg)
  | minmax (mx : Bool) (x y : CArg)
  | delete (d : EqD) (m k : CArg)
  | call (f : Nat) (args : List CArg)
  | callv (f : CArg) (args : List CArg)

noncomputable def evL (fr : Fr) (l : List CArg) : List CV := List.rec [] (fun x _ r => ev fr x :: r) l
noncomputable def evO (fr : Fr) (x : Option CArg) : Option CV := Option.rec none (fun x => some (ev fr x)) x
noncomputable def evP (fr : Fr) (l : List PartA) : List Part := List.rec [] (fun p _ r => (p.1, p.2.1, ev fr p.2.2) :: r) l
abbrev CallF := Nat → List CV → St → OR
noncomputable def pCallv (call : CallF) (f : CV) (args : List CV) (st : St) : OR :=
  match f with | .func (.func f) first captured => call f (row first ++ (args ++ row captured)) st | _ => .bad

noncomputable def runOp (call : CallF) (op : COp) (fr : Fr) (st : St) : OR :=
  match op with
  | .mov x => .ok (ev fr x) st
  | .pick c a b => pPick (ev fr c) (ev fr a) (ev fr b) st
  | .new t z => pNew t z st
  | .box t x => (ev fr x).segs.force fun s => pNew t s st
  | .build z parts => pBuild z (evP fr parts) st
  | .buildSlice e len z parts => pBuildSlice e len (repS len z) (evP fr parts) st
  | .load1 a => pLoad1 (ev fr a) st
  | .loadN n a => pLoadN n (ev fr a) st
  | .store n a x => pStore n (ev fr a) (ev fr x) st
  | .nil x => pNil (ev fr x) st
  | .bin op d cst x y => pBin op d cst (ev fr x) (ev fr y) st
  | .un op x => pUn op (ev fr x) st
  | .conv c x => pConv c (ev fr x) st
  | .s2ap n x => pS2ap n (ev fr x) st
  | .iface t x => pIface t (ev fr x) st
  | .func fn f c => pFunc fn (evL fr f) (evL fr c) st
  | .mkMap r => pMkMap (evO fr r) st
  | .mkSlice e bytes z l c => pMake e bytes z (ev fr l) (ev fr c) st
  | .sliceStr x lo hi => pSliceStr (ev fr x) (evO fr lo) (evO fr hi) st
  | .sliceSl size x lo hi => pSliceSl size (ev fr x) (evO fr lo) (evO fr hi) st
  | .slice3 size x lo hi mx => pSlice3 size (ev fr x) (evO fr lo) (ev fr hi) (ev fr mx) st
  | .sliceArr n size x lo hi => pSliceArr n size (ev fr x) (evO fr lo) (evO fr hi) st
  | .fieldAddr off x => pFieldAddr off (ev fr x) st
  | .field agg off size x => pField agg off size (ev fr x) st
  | .idxArr n size x i => pIdxArr n size (ev fr x) (ev fr i) st
  | .idxSl size x i => pIdxSl size (ev fr x) (ev fr i) st
  | .idxStr x i => pIdxStr (ev fr x) (ev fr i) st
  | .idxAgg n size agg x i => pIdxAgg n size agg (ev fr x) (ev fr i) st
  | .lookup d z ok x k => pLookup d z ok (ev fr x) (ev fr k) st
  | .mapUpdate d m k x => pMapUpdate d (ev fr m) (ev fr k) (ev fr x) st
  | .mapEntry d z m k => pMapEntry d z (ev fr m) (ev fr k) st
  | .entryStore m s x => pEntryStore (ev fr m) (ev fr s) (ev fr x) st
  | .extract x i => pExtract (ev fr x) i st
  | .len k x => pLen k (ev fr x) st
  | .append e size bytes z k s x => pAppend e size bytes (ev fr s) (srcOf k size z (ev fr x) st) st
  | .copy str size d s => pCopy str size (ev fr d) (ev fr s) st
  | .clear z x => pClear z (ev fr x) st
  | .minmax mx x y => pMM mx (ev fr x) (ev fr y) st
  | .delete d m k => pDelete d (ev fr m) (ev fr k) st
  | .call f args => call f (evL fr args) st
  | .callv f args => pCallv call (ev fr f) (evL fr args) st

/- compiling -/
def callable (P : Program) (f : Nat) : Bool := match P.funcs[f]? with | some fn => !(fn.name == "runtime.NumGoroutine") && fn.body.isSome | none => false

def CallOK (P : Program) (f : Nat) (args : List CV) (st : St) (v : CV) (st' : St) : Prop :=
  ∀ (ρ : Ren) (w : World) (args' : Array Value), WR ρ st w → VRs ρ args args'.toList →
    Calls P f args' w fun e w' => ∃ v' ρ', e = .returned v' ∧ VR ρ' v v' ∧ After ρ st w ρ' st' w'
/-- A function of the model's own, that only answers. -/
def ExtOK (P : Program) (f : Nat) (args : List CV) (st : St) (v : CV) (st' : St) : Prop :=
  st' = st ∧ ∀ (ρ : Ren) (w : World) (args' : Array Value), WR ρ st w → VRs ρ args args'.toList → ∃ v', (callFunc f args').run P w = .ok (.value v') w ∧ VR ρ v v'
def CallOut (P : Program) (f : Nat) (args : List CV) (st : St) (v : CV) (st' : St) : Prop := (callable P f = true ∧ CallOK P f args st v st') ∨ ExtOK P f args st v st'
def CallSound (P : Program) (call : CallF) : Prop := ∀ f args st v st', call f args st = .ok v st' → CallOut P f args st v st'

/-- Single bytes into packed ones. -/
noncomputable def pack (s : Segs CV) : Segs CV :=
  Segs.rec (motive := fun _ => Segs CV) .nil (fun v _ ih => match v with | .int .u8 (.ofNat n) => bsel (Nat.ble (Nat.succ n) 256) (Segs.consB 1 n ih) (.one v ih) | _ => .one v ih) (fun n val _ ih => Segs.consB n val ih) s
theorem row_pack (s : Segs CV) : row (pack s) = row s := by
  induction s with
  | nil => rfl
  | one v r ih =>
    have e : pack (.one v r) = (match v with | .int .u8 (.ofNat n) => bsel (Nat.ble (Nat.succ n) 256) (Segs.consB 1 n (pack r)) (.one v (pack r)) | _ => .one v (pack r)) := rfl
    rw [e]
    split
    · rename_i n
      simp only [bsel_eq, Nat.ble_eq]
      split
      · rename_i hn
        rw [row, Segs.cells_consB]
        show (ub 1 n).map byteV ++ row (pack r) = CV.int .u8 (.ofNat n) :: row r
        rw [ih]
        have : n % 256 = n := Nat.mod_eq_of_lt hn
        simp [ub, byteV, this]
      · exact congrArg (List.cons _) ih
    · exact congrArg (List.cons _) ih
  | bytes n val r ih =>
    show row (Segs.consB n val (pack r)) = _
    rw [row, Segs.cells_consB]
    show (ub n val).map byteV ++ row (pack r) = (ub n val).map byteV ++ row r
    rw [ih]
/-- 'as the kernel has it': the type's row. -/
noncomputable def zrow (i : TypeInfo) : Option (Segs CV) :=
  match i.zero with
  | some z => bsel (Nat.beq z.cells.size i.size) (Option.rec none (fun s => some ((pack s).force fun s => s)) (ofCells z.cells.toList)) none
  | none => none
theorem zrow_some {i : TypeInfo} {s : Segs CV} (h : zrow i = some s) : ∃ z, i.zero = some z ∧ z.cells.size = i.size ∧ ∀ ρ, VRs ρ (row s) z.cells.toList := by
  unfold zrow at h
  split at h
  · rename_i z hz
    simp only [bsel_eq, Nat.beq_eq] at h
    split at h
    · rename_i hs
      cases hc : ofCells z.cells.toList with
      | none => rw [hc] at h; cases h
      | some s' =>
        rw [hc] at h
        have h' : (pack s').force (fun s => s) = s := Option.some.inj h
        rw [Segs.force_eq] at h'; subst h'
        exact ⟨z, hz, hs, fun ρ => by rw [row_pack]; exact ofCells_some _ _ hc ρ⟩
    · cases h
  · cases h
noncomputable def zval (i : TypeInfo) : Option CV := match i.zero with | some z => ofValue z | none => none
theorem zval_some {i : TypeInfo} {c : CV} (h : zval i = some c) : ∃ z, i.zero = some z ∧ ∀ ρ, VR ρ c z := by
  unfold zval at h
  split at h
  · rename_i z hz; exact ⟨z, hz, fun ρ => VR.ofValue h ρ⟩
  · cases h

noncomputable def cArgs (l : List Operand) : Option (List CArg) := List.rec (some []) (fun x _ r => Option.rec none (fun r => Option.rec none (fun c => some (c :: r)) (cArg x)) r) l
noncomputable def cOpt (x : Option Operand) : Option (Option CArg) := match x with | none => some none | some x => (match cArg x with | some c => some (some c) | none => none)
noncomputable def cParts (place : Nat → Option (Nat × Nat)) (l : List (Nat × Operand)) : Option (List PartA) :=
  List.rec (some []) (fun p _ r => Option.rec none (fun r => (match place p.1, cArg p.2 with | some (off, size), some c => some ((off, size, c) :: r) | _, _ => none)) r) l

section
variable {P : Program} {ρ : Ren} {st st' : St} {w : World} {v : CV} {fr : Fr} {a : Act}
theorem cArgs_sound : ∀ {l : List Operand} {c : List CArg}, cArgs l = some c → FR ρ fr a.tmps → VRs ρ (evL fr c) (l.map a.eval) := by
  intro l
  induction l with
  | nil => intro c h _; cases h; exact VRs.nil ρ
  | cons x l ih =>
    intro c h hf
    have e : cArgs (x :: l) = Option.rec none (fun r => Option.rec none (fun c => some (c :: r)) (cArg x)) (cArgs l) := rfl
    rw [e] at h
    cases hl : cArgs l with
    | none => rw [hl] at h; cases h
    | some r =>
      rw [hl] at h
      cases hx : cArg x with
      | none => rw [hx] at h; cases h
      | some c' =>
        rw [hx] at h; cases h
        exact VRs.cons (ev_sound hx hf) (ih hl hf)
theorem cOpt_sound {x : Option Operand} {c : Option CArg} (h : cOpt x = some c) (hf : FR ρ fr a.tmps) : BR2 ρ (evO fr c) (x.map a.eval) := by
  unfold cOpt at h
  split at h
  · cases h; trivial
  · split at h
    · rename_i x c' hc; cases h; exact ev_sound hc hf
    · cases h
theorem cParts_sound {place : Nat → Option (Nat × Nat)} : ∀ {l : List (Nat × Operand)} {c : List PartA}, cParts place l = some c → FR ρ fr a.tmps → PartsR ρ place (evP fr c) (l.map fun p => (p.1, a.eval p.2)) := by
  intro l
  induction l with
  | nil => intro c h _; cases h; exact .nil
  | cons p l ih =>
    intro c h hf
    have e : cParts place (p :: l) = Option.rec none (fun r => (match place p.1, cArg p.2 with | some (off, size), some c => some ((off, size, c) :: r) | _, _ => none)) (cParts place l) := rfl
    rw [e] at h
    cases hl : cParts place l with
    | none => rw [hl] at h; cases h
    | some r =>
      rw [hl] at h
      dsimp only at h
      split at h
      · rename_i off size c' h1 h2
        cases h
        exact .cons p.1 off size (ev fr c') _ _ _ h1 (ev_sound h2 hf) (ih hl hf)
      · cases h
end
end Sim

/- Sim, part 18: the compiler of operations, and that it is sound. -/
namespace Sim
open Go

def allInfo (P : Program) (l : List Field) : Bool := l.all fun f => (P.info? f.type).isSome
noncomputable def eqFor (P : Program) (op : BinOp) (t : TypeId) : Option EqD :=
  match op with
  | .eql | .neq => (match eqDesc P 40 t with
    | some d => bsel (aggD d) (bsel (P.eqGuardType P.depth t) none (some d)) (some d)
    | none => none)
  | _ => none
noncomputable def convKind (P : Program) (s d : TypeId) : Option ConvK :=
  match P.underlying s, P.underlying d with
  | some _, some (.int k) => some (.toInt k)
  | some .string, some .string => some .same
  | some .string, some (.slice e) => (match P.underlying e with | some (.int .u8) => some (.bytesOf e) | _ => none)
  | some (.slice e), some .string => (match P.underlying e with | some (.int .u8) => some .strOf | _ => none)
  | _, _ => none
noncomputable def keyOf (P : Program) (t : TypeId) : Option (TypeId × EqD) :=
  match P.underlying t with
  | some (.map k e) => (match eqDesc P 40 k with | some d => bsel (deepKey 40 d) (some (e, d)) none | none => none)
  | _ => none
noncomputable def lenKind (P : Program) (t : TypeId) : Option LenK :=
  match P.underlying t with
  | some .string => some .str
  | some (.slice _) => some .slice
  | some (.map _ _) => some .map
  | some (.array n _) => some (.const n)
  | some (.pointer a) => (match P.underlying a with | some (.array n _) => some (.const n) | _ => none)
  | _ => none
noncomputable def srcKind (P : Program) (u : TypeId) (size : Nat) : Option SrcK :=
  match P.underlying u with
  | some (.slice _) => some .slice
  | some .string => bsel (Nat.beq size 1) (some .str) none
  | some (.int _) => some .zeros
  | _ => none
def zerosFit (k : SrcK) (bytes : Nat) : Bool := match k with | .zeros => Nat.ble bytes 256 | _ => true

noncomputable def compBuiltin (P : Program) (b : Builtin) (ats : List TypeId) (args : List Operand) : Option COp :=
  match b, ats, args with
  | .len, t :: _, [x] => (match lenKind P t, cArg x with | some k, some x => some (.len k x) | _, _ => none)
  | .cap, t :: _, [x] => (match P.underlying t, cArg x with | some (.slice _), some x => some (.len .cap x) | _, _ => none)
  | .append, [t, u], [s, x] => (match P.underlying t, cArg s, cArg x with
    | some (.slice e), some s, some x => (match P.info? e with
      | some i => (match zrow i, srcKind P u i.size with | some z, some k => bsel (zerosFit k i.bytes) (some (.append e i.size i.bytes z k s x)) none | _, _ => none)
      | none => none)
    | _, _, _ => none)
  | .copy, [t, u], [d, s] => (match P.underlying t, P.underlying u, cArg d, cArg s with
    | some (.slice e), some su, some d, some s => (match P.info? e, su with
      | some i, .slice _ => some (.copy false i.size d s)
      | some i, .string => bsel (Nat.beq i.size 1) (some (.copy true i.size d s)) none
      | _, _ => none)
    | _, _, _, _ => none)
  | .clear, [t], [x] => (match P.underlying t, cArg x with
    | some (.slice e), some x => (match P.info? e with | some i => (match zrow i with | some z => some (.clear z x) | none => none) | none => none)
    | _, _ => none)
  | .max, _, [x, y] => (match cArg x, cArg y with | some x, some y => some (.minmax true x y) | _, _ => none)
  | .min, _, [x, y] => (match cArg x, cArg y with | some x, some y => some (.minmax false x y) | _, _ => none)
  | .delete, t :: _, [m, k] => (match keyOf P t, cArg m, cArg k with | some (_, d), some m, some k => some (.delete d m k) | _, _, _ => none)
  | _, _, _ => none

noncomputable def compOp (P : Program) (op : Op) : Option COp :=
  match op with
  | .move x => (match cArg x with | some x => some (.mov x) | none => none)
  | .assign x => (match cArg x with | some x => some (.mov x) | none => none)
  | .pick c a b => (match cArg c, cArg a, cArg b with | some c, some a, some b => some (.pick c a b) | _, _, _ => none)
  | .alloc t => (match P.info? t with | some i => (match zrow i with | some z => some (.new t z) | none => none) | none => none)
  | .box t x => (match cArg x with | some x => some (.box t x) | none => none)
  | .build t parts => (match P.underlying t, P.info? t with
    | some (.struct fs), some i => (match zrow i, cParts (placeF P fs) parts.toList, allInfo P fs.toList with | some z, some ps, true => some (.build z ps) | _, _, _ => none)
    | some (.array _ e), some i => (match P.info? e with | some j => (match zrow i, cParts (placeA j.size) parts.toList with | some z, some ps => some (.build z ps) | _, _ => none) | none => none)
    | _, _ => none)
  | .buildSlice t len parts => (match P.underlying t with
    | some (.slice e) => (match P.info? e with
      | some i => bsel (Nat.ble (Nat.mul len i.size) 16777216) (match zrow i, cParts (placeA i.size) parts.toList with | some z, some ps => some (.buildSlice e len z ps) | _, _ => none) none
      | none => none)
    | _ => none)
  | .load t x => (match P.underlying t, P.info? t, cArg x with | some u, some i, some x => bsel (aggOf u) (some (.loadN i.size x)) (some (.load1 x)) | _, _, _ => none)
  | .store t x y => (match P.info? t, cArg x, cArg y with | some i, some x, some y => some (.store i.size x y) | _, _, _ => none)
  | .nilCheck x => (match cArg x with | some x => some (.nil x) | none => none)
  | .binOp op t x y _ => (match cArg x, cArg y with | some x', some y' => some (.bin op (eqFor P op t) (cstOf x y) x' y') | _, _ => none)
  | .unOp op _ x => (match cArg x with | some x => some (.un op x) | none => none)
  | .convert s d x => (match convKind P s d, cArg x with | some c, some x => some (.conv c x) | _, _ => none)
  | .sliceToArrayPointer t x => (match P.underlying t, cArg x with | some (.array n _), some x => some (.s2ap n x) | _, _ => none)
  | .makeInterface t x => (match P.concrete t, cArg x with | true, some x => some (.iface t x) | _, _ => none)
  | .makeFunc fn f c => (match cArgs f.toList, cArgs c.toList with | some f, some c => some (.func fn f c) | _, _ => none)
  | .makeMap t r => (match P.underlying t, cOpt r with | some (.map _ _), some r => some (.mkMap r) | _, _ => none)
  | .makeSlice t l c => (match P.underlying t, cArg l, cArg c with
    | some (.slice e), some l, some c => (match P.info? e with | some i => (match zrow i with | some z => some (.mkSlice e i.bytes z l c) | none => none) | none => none)
    | _, _, _ => none)
  | .slice t x lo hi mx => (match P.underlying t, cArg x, cOpt lo, cOpt hi, cOpt mx with
    | some .string, some x, some lo, some hi, some none => some (.sliceStr x lo hi)
    | some (.slice e), some x, some lo, some hi, some none => (match P.info? e with | some i => some (.sliceSl i.size x lo hi) | none => none)
    | some (.slice e), some x, some lo, some (some hi), some (some mx) => (match P.info? e with | some i => some (.slice3 i.size x lo hi mx) | none => none)
    | some (.array n e), some x, some lo, some hi, some none => (match P.info? e with | some i => some (.sliceArr n i.size x lo hi) | none => none)
    | _, _, _, _, _ => none)
  | .fieldAddr t x f => (match P.underlying t, cArg x with
    | some (.struct fs), some x => (match fs[f]? with
      | some fd => (match P.info? fd.type with | some i => bsel (Nat.beq i.size 0) none (some (.fieldAddr fd.offset x)) | none => none)
      | none => none)
    | _, _ => none)
  | .field t x f => (match P.underlying t, cArg x with
    | some (.struct fs), some x => (match fs[f]? with
      | some fd => (match P.info? fd.type, P.underlying fd.type with | some i, some u => some (.field (aggOf u) fd.offset i.size x) | _, _ => none)
      | none => none)
    | _, _ => none)
  | .indexAddr t x i => (match P.underlying t, cArg x, cArg i with
    | some (.array n e), some x, some i => (match P.info? e with | some j => some (.idxArr n j.size x i) | none => none)
    | some (.slice e), some x, some i => (match P.info? e with | some j => some (.idxSl j.size x i) | none => none)
    | _, _, _ => none)
  | .index t x i => (match P.underlying t, cArg x, cArg i with
    | some .string, some x, some i => some (.idxStr x i)
    | some (.array n e), some x, some i => (match P.info? e, P.underlying e with | some j, some u => some (.idxAgg n j.size (aggOf u) x i) | _, _ => none)
    | _, _, _ => none)
  | .lookup t x k ok => (match keyOf P t, cArg x, cArg k with
    | some (e, d), some x, some k => (match P.info? e with | some i => (match zval i with | some z => some (.lookup d z ok x k) | none => none) | none => none)
    | _, _, _ => none)
  | .mapUpdate t m k x | .insert t m k x => (match keyOf P t, cArg m, cArg k, cArg x with | some (_, d), some m, some k, some x => some (.mapUpdate d m k x) | _, _, _, _ => none)
  | .mapEntry t m k => (match keyOf P t, cArg m, cArg k with
    | some (e, d), some m, some k => (match P.info? e with | some i => (match zval i with | some z => some (.mapEntry d z m k) | none => none) | none => none)
    | _, _, _ => none)
  | .entryStore _ m s x => (match cArg m, cArg s, cArg x with | some m, some s, some x => some (.entryStore m s x) | _, _, _ => none)
  | .extract x i => (match cArg x with | some x => some (.extract x i) | none => none)
  | .call { callee := .builtin b, args, argTypes } => compBuiltin P b argTypes.toList args.toList
  | .call { callee := .value (.func f), args, .. } => (match cArgs args.toList with | some l => some (.call f l) | none => none)
  | .call { callee := .value f, args, .. } => (match cArg f, cArgs args.toList with | some f, some l => some (.callv f l) | _, _ => none)
  | _ => none

section
variable {P : Program} {ρ : Ren} {st st' : St} {w : World} {v : CV} {fr : Fr} {a : Act} {call : CallF}

theorem opwp_of_does {o : Oper} {next : Act → World → Prop} {Q : Exit → Act → World → Prop} (h : Does P (execOp a.eval o) ρ st w v st')
    (hn : ∀ v' w' ρ', VR ρ' v v' → After ρ st w ρ' st' w' → next (a.put o.dst v') w') : o.wp P a w next Q := by
  obtain ⟨x, v', w', ρ', h1, h2, h3, h4⟩ := h
  unfold Oper.wp
  rw [h1]
  rcases h2 with rfl | ⟨rfl, rfl⟩
  · exact hn v' w' ρ' h3 h4
  · exact hn _ w' ρ' h3 h4

theorem keyOf_some {t e : TypeId} {d : EqD} (h : keyOf P t = some (e, d)) : ∃ k, P.underlying t = some (.map k e) ∧ eqDesc P 40 k = some d ∧ deepKey 40 d = true := by
  unfold keyOf at h
  split at h
  · rename_i k e' hu
    split at h
    · rename_i d' hd
      rw [bsel_eq] at h
      split at h
      · rename_i hk; cases h; exact ⟨k, hu, hd, hk⟩
      · cases h
    · cases h
  · cases h
theorem eqFor_some {op : BinOp} {t : TypeId} {d : EqD} (h : eqFor P op t = some d) : eqDesc P 40 t = some d ∧ (aggD d = true → P.eqGuardType P.depth t = false) := by
  have key : ∀ {x : Option EqD}, (match eqDesc P 40 t with
    | some d => bsel (aggD d) (bsel (P.eqGuardType P.depth t) none (some d)) (some d)
    | none => none) = some d → eqDesc P 40 t = some d ∧ (aggD d = true → P.eqGuardType P.depth t = false) := by
    intro _ h
    split at h
    · rename_i d' hd
      simp only [bsel_eq] at h
      split at h
      · split at h
        · cases h
        · rename_i hg; cases h; exact ⟨hd, fun _ => by simpa using hg⟩
      · rename_i ha; cases h; exact ⟨hd, fun e => absurd e ha⟩
    · cases h
  unfold eqFor at h
  split at h
  · exact key (x := none) h
  · exact key (x := none) h
  · cases h
theorem convKind_some {s d : TypeId} {c : ConvK} (h : convKind P s d = some c) : convFits P c s d := by
  unfold convKind at h
  split at h
  · rename_i u k h1 h2; cases h; exact ⟨h2, u, h1⟩
  · rename_i h1 h2; cases h; exact ⟨h2, h1⟩
  · rename_i e h1 h2
    split at h
    · rename_i h3; cases h; exact ⟨h2, h3, h1⟩
    · cases h
  · rename_i e h1 h2
    split at h
    · rename_i h3; cases h; exact ⟨e, h1, h3, h2⟩
    · cases h
  · cases h
theorem lenKind_some {t : TypeId} {k : LenK} (h : lenKind P t = some k) : lenFits P k t := by
  unfold lenKind at h
  split at h
  · rename_i hu; cases h; exact hu
  · rename_i e hu; cases h; exact ⟨e, hu⟩
  · rename_i k e hu; cases h; exact ⟨k, e, hu⟩
  · rename_i n e hu; cases h; exact .inl ⟨e, hu⟩
  · rename_i a hu
    split at h
    · rename_i n e hu2; cases h; exact .inr ⟨a, e, hu, hu2⟩
    · cases h
  · cases h
theorem srcKind_some {u : TypeId} {size : Nat} {k : SrcK} (h : srcKind P u size = some k) : srcFits P k u size := by
  unfold srcKind at h
  split at h
  · rename_i e hu; cases h; exact ⟨e, hu⟩
  · rename_i hu
    simp only [bsel_eq, Nat.beq_eq] at h
    split at h
    · rename_i hs; cases h; exact ⟨hu, hs⟩
    · cases h
  · rename_i j hu; cases h; exact ⟨j, hu⟩
  · cases h
theorem isAgg_run {t : TypeId} {u : TypeDesc} (hu : P.underlying t = some u) : (isAgg t).run P w = .ok (aggOf u) w := by
  cases u <;> simp [isAgg, run_underlying hu, aggOf]
theorem sizeOf_run {t : TypeId} {i : TypeInfo} (hi : P.info? t = some i) : (Go.sizeOf t).run P w = .ok i.size w := by simp [Go.sizeOf, typeInfo, hi]

theorem compBuiltin_sound {b : Builtin} {ats : Array TypeId} {args : Array Operand} {op : COp} {ty : TypeId} {cs : Array Bool} (h : compBuiltin P b ats.toList args.toList = some op) (hr : runOp call op fr st = .ok v st') (hw : WR ρ st w) (hf : FR ρ fr a.tmps) :
    Does P (builtin b ats ty cs (args.map a.eval)) ρ st w v st' := by
  obtain ⟨ats⟩ := ats
  obtain ⟨args⟩ := args
  rw [show Array.map a.eval ⟨args⟩ = (args.map a.eval).toArray from by simp]
  unfold compBuiltin at h
  split at h
  · rename_i t r x ht hx
    cases ht; cases hx
    split at h
    · rename_i k x' hk hx'
      cases h
      have := pLen_sound (P := P) (ty := ty) hr hw (ev_sound hx' hf) (lenKind_some hk) (t :: r).toArray (by simp)
      exact this.does
    · cases h
  · rename_i t r x ht hx
    cases ht; cases hx
    split at h
    · rename_i e x' hk hx'
      cases h
      exact (pCap_sound (P := P) (ty := ty) hr hw (ev_sound hx' hf) hk (t :: r).toArray (by simp)).does
    · cases h
  · rename_i t u s x ht hx
    cases ht; cases hx
    split at h
    · rename_i e s' x' hu hs' hx'
      split at h
      · rename_i i hi
        split at h
        · rename_i z k hz hk
          rw [bsel_eq] at h
          split at h
          · rename_i hzf
            cases h
            obtain ⟨z', z1, z2, z3⟩ := zrow_some hz
            have := pAppend_sound (P := P) (t := t) (u := u) (ty := ty) hr hw (ev_sound hs' hf) (ev_sound hx' hf) (srcKind_some hk) hu hi z1 rfl z2 z3 rfl (fun hkz => by subst hkz; simpa [zerosFit] using hzf)
            exact this.does
          · cases h
        · cases h
      · cases h
    · cases h
  · rename_i t u d s ht hx
    cases ht; cases hx
    split at h
    · rename_i e su d' s' hu hsu hd' hs'
      split at h
      · rename_i i e2 hi
        cases h
        have := pCopy_sound (P := P) (dT := t) (sT := u) (ty := ty) hr hw (ev_sound hd' hf) (ev_sound hs' hf) hu hi rfl (fun e => by cases e)
        exact this.does
      · rename_i i hi
        simp only [bsel_eq, Nat.beq_eq] at h
        split at h
        · rename_i h1
          cases h
          have := pCopy_sound (P := P) (dT := t) (sT := u) (ty := ty) hr hw (ev_sound hd' hf) (ev_sound hs' hf) hu hi rfl (fun _ => h1)
          exact this.does
        · cases h
      · cases h
    · cases h
  · rename_i t x ht hx
    cases ht; cases hx
    split at h
    · rename_i e x' hu hx'
      split at h
      · rename_i i hi
        split at h
        · rename_i z hz
          cases h
          obtain ⟨z', z1, z2, z3⟩ := zrow_some hz
          have := pClear_sound (P := P) (t := t) (ty := ty) hr hw (ev_sound hx' hf) hu hi z1 z3
          exact this.does
        · cases h
      · cases h
    · cases h
  · rename_i x y hx
    cases hx
    split at h
    · rename_i x' y' hx' hy'
      cases h
      have := pMM_sound (P := P) (mx := true) (ats := ats.toArray) (ty := ty) hr hw (ev_sound hx' hf) (ev_sound hy' hf)
      exact DoesV.does (s := Builtin.max_ ats.toArray ty #[a.eval x, a.eval y]) this
    · cases h
  · rename_i x y hx
    cases hx
    split at h
    · rename_i x' y' hx' hy'
      cases h
      have := pMM_sound (P := P) (mx := false) (ats := ats.toArray) (ty := ty) hr hw (ev_sound hx' hf) (ev_sound hy' hf)
      exact DoesV.does (s := Builtin.min_ ats.toArray ty #[a.eval x, a.eval y]) this
    · cases h
  · rename_i t r m k ht hx
    cases ht; cases hx
    split at h
    · rename_i e d m' k' hk hm' hk'
      cases h
      obtain ⟨kt, k1, k2, k3⟩ := keyOf_some hk
      have := pDelete_sound (P := P) (ty := ty) (ats := (t :: r).toArray) (by simp) hr hw (ev_sound hm' hf) (ev_sound hk' hf) k1 k2 (by omega) k3
      exact this.does
    · cases h
  · cases h
end
end Sim

/- Sim, part 19: every compiled operation does what the model's does. -/
namespace Sim
open Go

section
variable {P : Program} {ρ : Ren} {st st' : St} {w : World} {v : CV} {fr : Fr} {a : Act} {call : CallF}

theorem run_callFunc {f : FuncId} (args : Array Value) (h : callable P f = true) : (callFunc f args).run P w = .ok (.enter f args) w := by
  unfold callable at h
  split at h
  · rename_i fn hfn
    simp only [Bool.and_eq_true, Bool.not_eq_true'] at h
    have h1 : ¬ (fn.name == "runtime.NumGoroutine") = true := by rw [h.1]; simp
    have h2 : ¬ fn.body.isNone = true := by
      have := h.2
      cases hb : fn.body <;> simp_all
    simp only [callFunc, Sem.run_bind, run_program, Result.andThen_ok, hfn]
    rw [if_neg h1, if_neg h2]
    rfl
  · cases h

theorem run_callv {f : FuncId} {first captured : Array Value} {x : Operand} {args : Array Operand} {ats : Array TypeId} {dst : Option Tmp} {ty : TypeId} {pos : String} {after : Array Edge} {guard : Option (Nat × Bool)}
    (hx : a.eval x = .func (.func f) first captured) :
    (execOp a.eval { dst, op := .call { callee := .value x, args, argTypes := ats }, type := ty, pos, after, guard }).run P w = (callFunc f (first ++ args.map a.eval ++ captured)).run P w := by
  have e : execOp a.eval { dst, op := .call { callee := .value x, args, argTypes := ats }, type := ty, pos, after, guard } =
      (do let d ← Deferred.ofValue (a.eval x) (args.map a.eval); invoke d.target d.args) := rfl
  rw [e, hx]
  simp only [Deferred.ofValue, Sem.run_bind, Sem.run_pure, Result.andThen_ok, invoke]

theorem callwp {o : Oper} {next : Act → World → Prop} {Q : Exit → Act → World → Prop} {f : FuncId} {args : List CV} {args' : Array Value} (hc : CallSound P call) (hr : call f args st = .ok v st') (hw : WR ρ st w) (ha : VRs ρ args args'.toList)
    (hrun : (execOp a.eval o).run P w = (callFunc f args').run P w) (hn : ∀ v' w' ρ', VR ρ' v v' → After ρ st w ρ' st' w' → next (a.put o.dst v') w') : o.wp P a w next Q := by
  rcases hc f args st v st' hr with ⟨h1, h2⟩ | ⟨h1, h2⟩
  · unfold Oper.wp
    rw [hrun, run_callFunc _ h1, Oper.upon_enter]
    refine (h2 ρ w args' hw ha).mono ?_
    rintro e w' ⟨v', ρ', rfl, hv, hA⟩
    exact hn v' w' ρ' hv hA
  · subst h1
    obtain ⟨v', h3, h4⟩ := h2 ρ w args' hw ha
    unfold Oper.wp
    rw [hrun, h3, Oper.upon_value]
    exact hn v' w ρ h4 (After.refl hw)

theorem callv_inv {f : CV} {args : List CV} (hr : pCallv call f args st = .ok v st') {f' : Value} (hf : VR ρ f f') {args' : List Value} (ha : VRs ρ args args') :
    ∃ g first captured, f' = .func (.func g) first captured ∧ ∃ l, call g l st = .ok v st' ∧ VRs ρ l (first ++ args'.toArray ++ captured).toList := by
  unfold pCallv at hr
  split at hr
  · rename_i g fi ca
    cases hf with
    | func _ _ _ f' c' hf hc h1 h2 =>
      refine ⟨g, f'.toArray, c'.toArray, rfl, _, hr, ?_⟩
      have := (VRs.mk (ρ := ρ) hf h1).app (ha.app (VRs.mk (ρ := ρ) hc h2))
      simpa using this
  · cases hr

theorem compOp_sound (hc : CallSound P call) {o : Oper} {op : COp} (h : compOp P o.op = some op) (hr : runOp call op fr st = .ok v st') (hw : WR ρ st w) (hf : FR ρ fr a.tmps) {next : Act → World → Prop} {Q : Exit → Act → World → Prop}
    (hn : ∀ v' w' ρ', VR ρ' v v' → After ρ st w ρ' st' w' → next (a.put o.dst v') w') : o.wp P a w next Q := by
  obtain ⟨dst, oop, ty, pos, after, guard⟩ := o
  have fin : ∀ {s : Sem Next}, s = execOp a.eval ⟨dst, oop, ty, pos, after, guard⟩ → Does P s ρ st w v st' → Oper.wp P ⟨dst, oop, ty, pos, after, guard⟩ a w next Q := fun e hd => opwp_of_does (e ▸ hd) hn
  dsimp only at h
  unfold compOp at h
  split at h
  · rename_i x
    split at h
    · rename_i x' hx; cases h; cases hr
      exact fin rfl ⟨.value (a.eval x), a.eval x, w, ρ, rfl, .inl rfl, ev_sound hx hf, After.refl hw⟩
    · cases h
  · rename_i x
    split at h
    · rename_i x' hx; cases h; cases hr
      exact fin rfl ⟨.value (a.eval x), a.eval x, w, ρ, rfl, .inl rfl, ev_sound hx hf, After.refl hw⟩
    · cases h
  · split at h
    · rename_i h1 h2 h3; cases h
      exact fin rfl (pPick_sound hr hw (ev_sound h1 hf) (ev_sound h2 hf) (ev_sound h3 hf))
    · cases h
  · split at h
    · rename_i i hi
      split at h
      · rename_i z hz; cases h
        obtain ⟨z', z1, z2, z3⟩ := zrow_some hz
        exact fin rfl (pAlloc_sound hr hw hi z1 z3).does
      · cases h
    · cases h
  · split at h
    · rename_i hx; cases h
      exact fin rfl (pBox_sound hr hw (ev_sound hx hf)).does
    · cases h
  · split at h
    · rename_i fs i hu hi
      split at h
      · rename_i z ps hz hp hall; cases h
        obtain ⟨z', z1, z2, z3⟩ := zrow_some hz
        have hpp := cParts_sound hp hf
        refine fin rfl (pBuild_struct hr hw hu hi z1 z3 (by rw [Array.toList_map]; exact hpp) (fun f hfm => ?_)).does
        have := List.all_eq_true.1 hall f hfm
        exact Option.isSome_iff_exists.1 this
      · cases h
    · rename_i n e i hu hi
      split at h
      · rename_i j hj
        split at h
        · rename_i z ps hz hp; cases h
          obtain ⟨z', z1, z2, z3⟩ := zrow_some hz
          have hpp := cParts_sound hp hf
          exact fin rfl (pBuild_array hr hw hu hi z1 z3 hj (by rw [Array.toList_map]; exact hpp)).does
        · cases h
      · cases h
    · cases h
  · split at h
    · rename_i e hu
      split at h
      · rename_i i hi
        simp only [bsel_eq, Nat.ble_eq] at h
        split at h
        · rename_i hle
          split at h
          · rename_i z ps hz hp; cases h
            obtain ⟨z', z1, z2, z3⟩ := zrow_some hz
            have hpp := cParts_sound hp hf
            exact fin rfl (pBuildSlice_sound hr hw hu hi z1 z2 z3 (by rw [Array.toList_map]; exact hpp) hle).does
          · cases h
        · cases h
      · cases h
    · cases h
  · split at h
    · rename_i u i x' hu hi hx
      rw [bsel_eq] at h
      split at h
      · rename_i ha; cases h
        exact fin rfl (pLoadN_sound hr hw (ev_sound hx hf) (by rw [isAgg_run hu, ha]) (sizeOf_run hi)).does
      · rename_i ha; cases h
        exact fin rfl (pLoad1_sound hr hw (ev_sound hx hf) (by rw [isAgg_run hu, show aggOf u = false by simpa using ha])).does
    · cases h
  · split at h
    · rename_i i x' y' hi hx hy; cases h
      exact fin rfl (pStore_sound hr hw (ev_sound hx hf) (ev_sound hy hf) (sizeOf_run hi)).does
    · cases h
  · rename_i x
    split at h
    · rename_i x' hx; cases h
      exact opwp_of_does (pNil_sound (o := ⟨dst, .nilCheck x, ty, pos, after, guard⟩) hr hw (ev_sound hx hf) rfl rfl) hn
    · cases h
  · rename_i op2 t x y yt
    split at h
    · rename_i x' y' hx hy; cases h
      refine fin rfl (pBin_sound (X := x) (Y := y) (f := 40) hr hw (ev_sound hx hf) (ev_sound hy hf) (fun e he => (eqFor_some he).1) (by omega) rfl (fun e he => (eqFor_some he).2)).does
    · cases h
  · split at h
    · rename_i x' hx; cases h
      exact fin rfl (pUn_sound hr hw (ev_sound hx hf)).does
    · cases h
  · split at h
    · rename_i c x' hk hx; cases h
      exact fin rfl (pConv_sound hr hw (ev_sound hx hf) (convKind_some hk)).does
    · cases h
  · split at h
    · rename_i hu hx; cases h
      exact fin rfl (pS2ap_sound hr hw (ev_sound hx hf) hu).does
    · cases h
  · split at h
    · rename_i hk hx; cases h
      exact fin rfl (pIface_sound hr hw (ev_sound hx hf) hk).does
    · cases h
  · split at h
    · rename_i h1 h2; cases h
      exact fin rfl (pFunc_sound hr hw (by rw [Array.toList_map]; exact cArgs_sound h1 hf) (by rw [Array.toList_map]; exact cArgs_sound h2 hf)).does
    · cases h
  · split at h
    · rename_i hu h1; cases h
      exact fin rfl (pMkMap_sound hr hw (cOpt_sound h1 hf) hu).does
    · cases h
  · split at h
    · rename_i e l' c' hu h1 h2
      split at h
      · rename_i i hi
        split at h
        · rename_i z hz; cases h
          obtain ⟨z', z1, z2, z3⟩ := zrow_some hz
          exact fin rfl (pMake_sound hr hw (ev_sound h1 hf) (ev_sound h2 hf) hu hi z1 rfl z2 z3).does
        · cases h
      · cases h
    · cases h
  · rename_i t x lo hi mx
    split at h
    · rename_i x' lo' hi' hu hx hlo hhi hmx; cases h
      have hm := cOpt_sound (ρ := ρ) hmx hf
      cases mx with
      | some m => exact False.elim hm
      | none => exact fin rfl (pSliceStr_sound hr hw (ev_sound hx hf) (cOpt_sound hlo hf) (cOpt_sound hhi hf) hu).does
    · rename_i e x' lo' hi' hu hx hlo hhi hmx
      have hm := cOpt_sound (ρ := ρ) hmx hf
      cases mx with
      | some m => exact False.elim hm
      | none =>
        split at h
        · rename_i i hi2; cases h
          exact fin rfl (pSliceSl_sound hr hw (ev_sound hx hf) (cOpt_sound hlo hf) (cOpt_sound hhi hf) hu (sizeOf_run hi2)).does
        · cases h
    · rename_i e x' lo' hi' mx' hu hx hlo hhi hmx
      have hm := cOpt_sound (ρ := ρ) hmx hf
      have hh := cOpt_sound (ρ := ρ) hhi hf
      cases mx with
      | none => exact False.elim hm
      | some m =>
        cases hi with
        | none => exact False.elim hh
        | some h2 =>
          split at h
          · rename_i i hi2; cases h
            exact fin rfl (pSlice3_sound hr hw (ev_sound hx hf) (cOpt_sound hlo hf) hh hm hu (sizeOf_run hi2)).does
          · cases h
    · rename_i n e x' lo' hi' hu hx hlo hhi hmx
      have hm := cOpt_sound (ρ := ρ) hmx hf
      cases mx with
      | some m => exact False.elim hm
      | none =>
        split at h
        · rename_i i hi2; cases h
          exact fin rfl (pSliceArr_sound hr hw (ev_sound hx hf) (cOpt_sound hlo hf) (cOpt_sound hhi hf) hu (sizeOf_run hi2)).does
        · cases h
    · cases h
  · split at h
    · rename_i fs x' hu hx
      split at h
      · rename_i fd hfd
        split at h
        · rename_i i hi
          simp only [bsel_eq, Nat.beq_eq] at h
          split at h
          · cases h
          · rename_i hz; cases h
            exact fin rfl (pFieldAddr_sound hr hw (ev_sound hx hf) hu hfd rfl (sizeOf_run hi) hz).does
        · cases h
      · cases h
    · cases h
  · split at h
    · rename_i fs x' hu hx
      split at h
      · rename_i fd hfd
        split at h
        · rename_i i u hi hut; cases h
          exact fin rfl (pField_sound hr hw (ev_sound hx hf) hu hfd hi hut).does
        · cases h
      · cases h
    · cases h
  · split at h
    · rename_i n e x' i' hu hx hi
      split at h
      · rename_i j hj; cases h
        exact fin rfl (pIdxArr_sound hr hw (ev_sound hx hf) (ev_sound hi hf) hu (sizeOf_run hj)).does
      · cases h
    · rename_i e x' i' hu hx hi
      split at h
      · rename_i j hj; cases h
        exact fin rfl (pIdxSl_sound hr hw (ev_sound hx hf) (ev_sound hi hf) hu (sizeOf_run hj)).does
      · cases h
    · cases h
  · split at h
    · rename_i x' i' hu hx hi; cases h
      exact fin rfl (pIdxStr_sound hr hw (ev_sound hx hf) (ev_sound hi hf) hu).does
    · rename_i n e x' i' hu hx hi
      split at h
      · rename_i j u hj hue; cases h
        exact fin rfl (pIdxAgg_sound hr hw (ev_sound hx hf) (ev_sound hi hf) hu hj hue).does
      · cases h
    · cases h
  · split at h
    · rename_i e d x' k' hk hx hkk
      split at h
      · rename_i i hi
        split at h
        · rename_i z hz; cases h
          obtain ⟨kt, k1, k2, k3⟩ := keyOf_some hk
          obtain ⟨z', z1, z2⟩ := zval_some hz
          exact fin rfl (pLookup_sound hr hw (ev_sound hx hf) (ev_sound hkk hf) k1 k2 (by omega) k3 hi z1 (z2 ρ)).does
        · cases h
      · cases h
    · cases h
  · split at h
    · rename_i e d m' k' x' hk hm hkk hx; cases h
      obtain ⟨kt, k1, k2, k3⟩ := keyOf_some hk
      exact fin rfl (pMapUpdate_sound hr hw (ev_sound hm hf) (ev_sound hkk hf) (ev_sound hx hf) k1 k2 (by omega) k3).does
    · cases h
  · split at h
    · rename_i e d m' k' x' hk hm hkk hx; cases h
      obtain ⟨kt, k1, k2, k3⟩ := keyOf_some hk
      exact fin rfl (pMapUpdate_sound hr hw (ev_sound hm hf) (ev_sound hkk hf) (ev_sound hx hf) k1 k2 (by omega) k3).does
    · cases h
  · split at h
    · rename_i e d m' k' hk hm hkk
      split at h
      · rename_i i hi
        split at h
        · rename_i z hz; cases h
          obtain ⟨kt, k1, k2, k3⟩ := keyOf_some hk
          obtain ⟨z', z1, z2⟩ := zval_some hz
          exact fin rfl (pMapEntry_sound hr hw (ev_sound hm hf) (ev_sound hkk hf) k1 k2 (by omega) k3 hi z1 (z2 ρ)).does
        · cases h
      · cases h
    · cases h
  · split at h
    · rename_i m' s' x' hm hs hx; cases h
      exact fin rfl (pEntryStore_sound hr hw (ev_sound hm hf) (ev_sound hs hf) (ev_sound hx hf)).does
    · cases h
  · split at h
    · rename_i x' hx; cases h
      exact fin rfl (pExtract_sound hr hw (ev_sound hx hf)).does
    · cases h
  · exact fin rfl (compBuiltin_sound h hr hw hf)
  · rename_i f args ats
    split at h
    · rename_i l hl; cases h
      refine callwp (o := ⟨dst, .call { callee := .value (.func f), args := args, argTypes := ats }, ty, pos, after, guard⟩) hc hr hw (args' := #[] ++ args.map a.eval ++ #[]) (by simpa using cArgs_sound hl hf) (run_callv rfl) hn
    · cases h
  · rename_i f args ats hnf
    split at h
    · rename_i f' l hf' hl; cases h
      obtain ⟨g, first, captured, e1, l', e2, e3⟩ := callv_inv hr (ev_sound hf' hf) (cArgs_sound hl hf)
      refine callwp (o := ⟨dst, .call { callee := .value f, args := args, argTypes := ats }, ty, pos, after, guard⟩) hc e2 hw (args' := first ++ args.map a.eval ++ captured) (by simpa using e3) (run_callv e1) hn
    · cases h
  · cases h
end
end Sim

/- Sim, part 19b: the tables of a program as tries, and the compiler over them. -/
namespace Sim
open Go

noncomputable def tabFrom {α : Type} (l : List α) : Bp → PT α → PT α :=
  List.rec (motive := fun _ => Bp → PT α → PT α) (fun _ t => t) (fun x _ ih p t => PT.force (t.put p (some x)) fun t => forceB p.succ fun p => ih p t) l
noncomputable def tabOf {α : Type} (l : List α) : PT α := tabFrom l .e .nil
theorem tabFrom_cons {α : Type} (x : α) (l : List α) (p : Bp) (t : PT α) : tabFrom (x :: l) p t = tabFrom l p.succ (t.put p (some x)) := by
  have e : tabFrom (x :: l) p t = PT.force (t.put p (some x)) fun t => forceB p.succ fun p => tabFrom l p t := rfl
  rw [e, PT.force_eq, forceB_eq]
theorem tabFrom_get {α : Type} : ∀ (l : List α) (p : Bp) (t : PT α) (q : Bp), (tabFrom l p t).get q = if p.dec ≤ q.dec ∧ q.dec < p.dec + l.length then l[q.dec - p.dec]? else t.get q := by
  intro l
  induction l with
  | nil => intro p t q; rw [if_neg (by simp)]; rfl
  | cons v l ih =>
    intro p fr q
    rw [tabFrom_cons, ih, Bp.dec_succ]
    by_cases h1 : q.dec = p.dec
    · have := Bp.dec_inj _ _ h1; subst this
      rw [if_neg (by omega), PT.get_put_same, if_pos (by simp)]
      simp
    · rw [PT.get_put_ne _ _ _ _ (fun e => h1 (by rw [e]))]
      by_cases h2 : p.dec + 1 ≤ q.dec ∧ q.dec < p.dec + 1 + l.length
      · rw [if_pos h2, if_pos (by simp only [List.length_cons]; omega)]
        have : q.dec - p.dec = (q.dec - (p.dec + 1)) + 1 := by omega
        rw [this]; simp
      · rw [if_neg h2, if_neg (by simp only [List.length_cons]; omega)]
theorem tabOf_get {α : Type} (l : List α) (i : Nat) : (tabOf l).get (Bp.enc i) = l[i]? := by
  unfold tabOf
  rw [tabFrom_get, Bp.dec_enc]
  have e0 : Bp.e.dec = 0 := rfl
  rw [e0]
  by_cases h : i < l.length
  · rw [if_pos (by omega)]; simp
  · rw [if_neg (by omega)]; simp; omega

noncomputable def infoT (P : Program) (t : TypeId) : Option TypeInfo := match (tabOf P.types.toList).get (Bp.enc t) with | some i => some i | none => P.info? t
theorem infoT_eq (P : Program) : infoT P = P.info? := by
  funext t
  unfold infoT
  rw [tabOf_get]
  split
  · rename_i i h
    have h : P.types[t]? = some i := by simpa using h
    have hlt : t < P.types.size := (Array.getElem?_eq_some_iff.1 h).1
    show _ = Tables.info? _ t
    unfold Tables.info?
    rw [if_pos hlt]; exact h.symm
  · rfl
noncomputable def undT (P : Program) (t : TypeId) : Option TypeDesc :=
  match infoT P t with
  | some { desc := .named _ u, .. } => (infoT P u).map (·.desc)
  | some i => some i.desc
  | none => none
theorem undT_eq (P : Program) : undT P = P.underlying := by
  funext t
  unfold undT Program.underlying
  rw [infoT_eq]; rfl
noncomputable def funcT (P : Program) (f : Nat) : Option Func := (tabOf P.funcs.toList).get (Bp.enc f)
theorem funcT_eq (P : Program) (f : Nat) : funcT P f = P.funcs[f]? := by unfold funcT; rw [tabOf_get]; simp

noncomputable def fieldsDT (P : Program) (desc : TypeId → Option EqD) (fs : List Field) : Option EqF :=
  match fs with
  | [] => some .nil
  | f :: r =>
    match decide (f.name = "_"), infoT P f.type, (undT P f.type), desc f.type, fieldsDT P desc r with
    | false, some i, some u, some d, some r => some (.cons f.offset i.size (aggOf u) d r)
    | _, _, _, _, _ => none
noncomputable def eqDescT (P : Program) : Nat → TypeId → Option EqD
  | 0, _ => none
  | n + 1, t =>
    match undT P t with
    | some .bool => some .bool
    | some (.int _) => some .int
    | some .string => some .str
    | some (.pointer e) => (match infoT P e with | some i => bsel (Nat.beq i.size 0) none (some .ptr) | none => none)
    | some (.interface _) => some .iface
    | some (.slice _) => some .slice
    | some (.map _ _) => some .map
    | some (.func _ _ _) => some .func
    | some (.struct fs) => bsel (P.stoodInHeld t) none (match fieldsDT P (eqDescT P n) fs.toList with | some l => some (.struct l) | none => none)
    | some (.array len e) =>
      (match infoT P e, undT P e with
      | some i, some (.int .u8) => bsel (Nat.beq i.size 1) (some (.bytes len)) none
      | some i, some u => (match eqDescT P n e with | some d => some (.array len i.size (aggOf u) d) | none => none)
      | _, _ => none)
    | _ => none

noncomputable def placeFT (P : Program) (fs : Array Field) (i : Nat) : Option (Nat × Nat) := (fs[i]?).map fun f => (f.offset, ((infoT P f.type).map (·.size)).getD 0)
noncomputable def allInfoT (P : Program) (l : List Field) : Bool := l.all fun f => (infoT P f.type).isSome
noncomputable def eqForT (P : Program) (op : BinOp) (t : TypeId) : Option EqD :=
  match op with
  | .eql | .neq => (match eqDescT P 40 t with
    | some d => bsel (aggD d) (bsel (P.eqGuardType P.depth t) none (some d)) (some d)
    | none => none)
  | _ => none
noncomputable def convKindT (P : Program) (s d : TypeId) : Option ConvK :=
  match undT P s, undT P d with
  | some _, some (.int k) => some (.toInt k)
  | some .string, some .string => some .same
  | some .string, some (.slice e) => (match undT P e with | some (.int .u8) => some (.bytesOf e) | _ => none)
  | some (.slice e), some .string => (match undT P e with | some (.int .u8) => some .strOf | _ => none)
  | _, _ => none
noncomputable def keyOfT (P : Program) (t : TypeId) : Option (TypeId × EqD) :=
  match undT P t with
  | some (.map k e) => (match eqDescT P 40 k with | some d => bsel (deepKey 40 d) (some (e, d)) none | none => none)
  | _ => none
noncomputable def lenKindT (P : Program) (t : TypeId) : Option LenK :=
  match undT P t with
  | some .string => some .str
  | some (.slice _) => some .slice
  | some (.map _ _) => some .map
  | some (.array n _) => some (.const n)
  | some (.pointer a) => (match undT P a with | some (.array n _) => some (.const n) | _ => none)
  | _ => none
noncomputable def srcKindT (P : Program) (u : TypeId) (size : Nat) : Option SrcK :=
  match undT P u with
  | some (.slice _) => some .slice
  | some .string => bsel (Nat.beq size 1) (some .str) none
  | some (.int _) => some .zeros
  | _ => none

noncomputable def compBuiltinT (P : Program) (b : Builtin) (ats : List TypeId) (args : List Operand) : Option COp :=
  match b, ats, args with
  | .len, t :: _, [x] => (match lenKindT P t, cArg x with | some k, some x => some (.len k x) | _, _ => none)
  | .cap, t :: _, [x] => (match undT P t, cArg x with | some (.slice _), some x => some (.len .cap x) | _, _ => none)
  | .append, [t, u], [s, x] => (match undT P t, cArg s, cArg x with
    | some (.slice e), some s, some x => (match infoT P e with
      | some i => (match zrow i, srcKindT P u i.size with | some z, some k => bsel (zerosFit k i.bytes) (some (.append e i.size i.bytes z k s x)) none | _, _ => none)
      | none => none)
    | _, _, _ => none)
  | .copy, [t, u], [d, s] => (match undT P t, undT P u, cArg d, cArg s with
    | some (.slice e), some su, some d, some s => (match infoT P e, su with
      | some i, .slice _ => some (.copy false i.size d s)
      | some i, .string => bsel (Nat.beq i.size 1) (some (.copy true i.size d s)) none
      | _, _ => none)
    | _, _, _, _ => none)
  | .clear, [t], [x] => (match undT P t, cArg x with
    | some (.slice e), some x => (match infoT P e with | some i => (match zrow i with | some z => some (.clear z x) | none => none) | none => none)
    | _, _ => none)
  | .max, _, [x, y] => (match cArg x, cArg y with | some x, some y => some (.minmax true x y) | _, _ => none)
  | .min, _, [x, y] => (match cArg x, cArg y with | some x, some y => some (.minmax false x y) | _, _ => none)
  | .delete, t :: _, [m, k] => (match keyOfT P t, cArg m, cArg k with | some (_, d), some m, some k => some (.delete d m k) | _, _, _ => none)
  | _, _, _ => none

noncomputable def compOpT (P : Program) (op : Op) : Option COp :=
  match op with
  | .move x => (match cArg x with | some x => some (.mov x) | none => none)
  | .assign x => (match cArg x with | some x => some (.mov x) | none => none)
  | .pick c a b => (match cArg c, cArg a, cArg b with | some c, some a, some b => some (.pick c a b) | _, _, _ => none)
  | .alloc t => (match infoT P t with | some i => (match zrow i with | some z => some (.new t z) | none => none) | none => none)
  | .box t x => (match cArg x with | some x => some (.box t x) | none => none)
  | .build t parts => (match undT P t, infoT P t with
    | some (.struct fs), some i => (match zrow i, cParts (placeFT P fs) parts.toList, allInfoT P fs.toList with | some z, some ps, true => some (.build z ps) | _, _, _ => none)
    | some (.array _ e), some i => (match infoT P e with | some j => (match zrow i, cParts (placeA j.size) parts.toList with | some z, some ps => some (.build z ps) | _, _ => none) | none => none)
    | _, _ => none)
  | .buildSlice t len parts => (match undT P t with
    | some (.slice e) => (match infoT P e with
      | some i => bsel (Nat.ble (Nat.mul len i.size) 16777216) (match zrow i, cParts (placeA i.size) parts.toList with | some z, some ps => some (.buildSlice e len z ps) | _, _ => none) none
      | none => none)
    | _ => none)
  | .load t x => (match undT P t, infoT P t, cArg x with | some u, some i, some x => bsel (aggOf u) (some (.loadN i.size x)) (some (.load1 x)) | _, _, _ => none)
  | .store t x y => (match infoT P t, cArg x, cArg y with | some i, some x, some y => some (.store i.size x y) | _, _, _ => none)
  | .nilCheck x => (match cArg x with | some x => some (.nil x) | none => none)
  | .binOp op t x y _ => (match cArg x, cArg y with | some x', some y' => some (.bin op (eqForT P op t) (cstOf x y) x' y') | _, _ => none)
  | .unOp op _ x => (match cArg x with | some x => some (.un op x) | none => none)
  | .convert s d x => (match convKindT P s d, cArg x with | some c, some x => some (.conv c x) | _, _ => none)
  | .sliceToArrayPointer t x => (match undT P t, cArg x with | some (.array n _), some x => some (.s2ap n x) | _, _ => none)
  | .makeInterface t x => (match (match undT P t with | some (.interface _) | none => false | _ => true), cArg x with | true, some x => some (.iface t x) | _, _ => none)
  | .makeFunc fn f c => (match cArgs f.toList, cArgs c.toList with | some f, some c => some (.func fn f c) | _, _ => none)
  | .makeMap t r => (match undT P t, cOpt r with | some (.map _ _), some r => some (.mkMap r) | _, _ => none)
  | .makeSlice t l c => (match undT P t, cArg l, cArg c with
    | some (.slice e), some l, some c => (match infoT P e with | some i => (match zrow i with | some z => some (.mkSlice e i.bytes z l c) | none => none) | none => none)
    | _, _, _ => none)
  | .slice t x lo hi mx => (match undT P t, cArg x, cOpt lo, cOpt hi, cOpt mx with
    | some .string, some x, some lo, some hi, some none => some (.sliceStr x lo hi)
    | some (.slice e), some x, some lo, some hi, some none => (match infoT P e with | some i => some (.sliceSl i.size x lo hi) | none => none)
    | some (.slice e), some x, some lo, some (some hi), some (some mx) => (match infoT P e with | some i => some (.slice3 i.size x lo hi mx) | none => none)
    | some (.array n e), some x, some lo, some hi, some none => (match infoT P e with | some i => some (.sliceArr n i.size x lo hi) | none => none)
    | _, _, _, _, _ => none)
  | .fieldAddr t x f => (match undT P t, cArg x with
    | some (.struct fs), some x => (match fs[f]? with
      | some fd => (match infoT P fd.type with | some i => bsel (Nat.beq i.size 0) none (some (.fieldAddr fd.offset x)) | none => none)
      | none => none)
    | _, _ => none)
  | .field t x f => (match undT P t, cArg x with
    | some (.struct fs), some x => (match fs[f]? with
      | some fd => (match infoT P fd.type, undT P fd.type with | some i, some u => some (.field (aggOf u) fd.offset i.size x) | _, _ => none)
      | none => none)
    | _, _ => none)
  | .indexAddr t x i => (match undT P t, cArg x, cArg i with
    | some (.array n e), some x, some i => (match infoT P e with | some j => some (.idxArr n j.size x i) | none => none)
    | some (.slice e), some x, some i => (match infoT P e with | some j => some (.idxSl j.size x i) | none => none)
    | _, _, _ => none)
  | .index t x i => (match undT P t, cArg x, cArg i with
    | some .string, some x, some i => some (.idxStr x i)
    | some (.array n e), some x, some i => (match infoT P e, undT P e with | some j, some u => some (.idxAgg n j.size (aggOf u) x i) | _, _ => none)
    | _, _, _ => none)
  | .lookup t x k ok => (match keyOfT P t, cArg x, cArg k with
    | some (e, d), some x, some k => (match infoT P e with | some i => (match zval i with | some z => some (.lookup d z ok x k) | none => none) | none => none)
    | _, _, _ => none)
  | .mapUpdate t m k x | .insert t m k x => (match keyOfT P t, cArg m, cArg k, cArg x with | some (_, d), some m, some k, some x => some (.mapUpdate d m k x) | _, _, _, _ => none)
  | .mapEntry t m k => (match keyOfT P t, cArg m, cArg k with
    | some (e, d), some m, some k => (match infoT P e with | some i => (match zval i with | some z => some (.mapEntry d z m k) | none => none) | none => none)
    | _, _, _ => none)
  | .entryStore _ m s x => (match cArg m, cArg s, cArg x with | some m, some s, some x => some (.entryStore m s x) | _, _, _ => none)
  | .extract x i => (match cArg x with | some x => some (.extract x i) | none => none)
  | .call { callee := .builtin b, args, argTypes } => compBuiltinT P b argTypes.toList args.toList
  | .call { callee := .value (.func f), args, .. } => (match cArgs args.toList with | some l => some (.call f l) | none => none)
  | .call { callee := .value f, args, .. } => (match cArg f, cArgs args.toList with | some f, some l => some (.callv f l) | _, _ => none)
  | _ => none


theorem fieldsDT_eq (P : Program) (desc : TypeId → Option EqD) (fs : List Field) : fieldsDT P desc fs = fieldsD P desc fs := by
  induction fs with
  | nil => rfl
  | cons f r ih => unfold fieldsDT fieldsD; rw [ih, infoT_eq, undT_eq]; rfl
theorem eqDescT_eq (P : Program) (n : Nat) : eqDescT P n = eqDesc P n := by
  induction n with
  | zero => rfl
  | succ n ih =>
    funext t
    unfold eqDescT eqDesc
    rw [undT_eq, infoT_eq, ih]
    simp only [fieldsDT_eq]
    rfl
theorem placeFT_eq (P : Program) : placeFT P = placeF P := by
  funext fs i
  unfold placeFT placeF Program.cellsOf
  rw [infoT_eq]
theorem allInfoT_eq (P : Program) : allInfoT P = allInfo P := by funext l; unfold allInfoT allInfo; rw [infoT_eq]
theorem eqForT_eq (P : Program) : eqForT P = eqFor P := by funext op t; unfold eqForT eqFor; rw [eqDescT_eq]; try rfl
theorem convKindT_eq (P : Program) : convKindT P = convKind P := by funext s d; unfold convKindT convKind; rw [undT_eq]; try rfl
theorem keyOfT_eq (P : Program) : keyOfT P = keyOf P := by funext t; unfold keyOfT keyOf; rw [undT_eq, eqDescT_eq]; try rfl
theorem lenKindT_eq (P : Program) : lenKindT P = lenKind P := by funext t; unfold lenKindT lenKind; rw [undT_eq]; try rfl
theorem srcKindT_eq (P : Program) : srcKindT P = srcKind P := by funext t s; unfold srcKindT srcKind; rw [undT_eq]; try rfl
theorem compBuiltinT_eq (P : Program) : compBuiltinT P = compBuiltin P := by
  funext b ats args
  unfold compBuiltinT compBuiltin
  rw [undT_eq, infoT_eq, lenKindT_eq, srcKindT_eq, keyOfT_eq]; try rfl
theorem compOpT_eq (P : Program) (op : Op) : compOpT P op = compOp P op := by
  unfold compOpT compOp
  rw [undT_eq, infoT_eq, allInfoT_eq, eqForT_eq, convKindT_eq, keyOfT_eq, placeFT_eq, compBuiltinT_eq]
  rfl
end Sim

/- Sim, part 19c: the operations by recursors whose minor premises are closed: what the kernel unfolds is small. -/
namespace Sim
open Go

noncomputable def onPtr (v : CV) : (Bp → Nat → OR) → OR := CV.rec (motive_1 := fun _ => (Bp → Nat → OR) → OR) (motive_2 := fun _ => PUnit) (fun _ => .bad) (fun _ => fun _ => .bad) (fun _ _ => fun _ => .bad) (fun _ _ => fun _ => .bad) (fun _ => .bad) (fun b o => fun k => k b o) (fun _ => .bad) (fun _ _ _ _ _ => fun _ => .bad) (fun _ => .bad) (fun _ => fun _ => .bad) (fun _ _ _ _ _ => fun _ => .bad) (fun _ => .bad) (fun _ _ _ => fun _ => .bad) (fun _ => .bad) (fun _ _ => fun _ => .bad) (fun _ _ => fun _ => .bad) (fun _ => fun _ => .bad) PUnit.unit (fun _ _ _ _ => PUnit.unit) (fun _ _ _ _ => PUnit.unit) v
theorem onPtr_eq (v : CV) (k : Bp → Nat → OR) : onPtr v k = (match v with | .ptr b o => k b o | _ => .bad) := by cases v <;> rfl
noncomputable def onBool (v : CV) : (Bool → OR) → OR := CV.rec (motive_1 := fun _ => (Bool → OR) → OR) (motive_2 := fun _ => PUnit) (fun _ => .bad) (fun b => fun k => k b) (fun _ _ => fun _ => .bad) (fun _ _ => fun _ => .bad) (fun _ => .bad) (fun _ _ => fun _ => .bad) (fun _ => .bad) (fun _ _ _ _ _ => fun _ => .bad) (fun _ => .bad) (fun _ => fun _ => .bad) (fun _ _ _ _ _ => fun _ => .bad) (fun _ => .bad) (fun _ _ _ => fun _ => .bad) (fun _ => .bad) (fun _ _ => fun _ => .bad) (fun _ _ => fun _ => .bad) (fun _ => fun _ => .bad) PUnit.unit (fun _ _ _ _ => PUnit.unit) (fun _ _ _ _ => PUnit.unit) v
theorem onBool_eq (v : CV) (k : Bool → OR) : onBool v k = (match v with | .bool b => k b | _ => .bad) := by cases v <;> rfl
noncomputable def onInt (v : CV) : (IntKind → Int → OR) → OR := CV.rec (motive_1 := fun _ => (IntKind → Int → OR) → OR) (motive_2 := fun _ => PUnit) (fun _ => .bad) (fun _ => fun _ => .bad) (fun q n => fun k => k q n) (fun _ _ => fun _ => .bad) (fun _ => .bad) (fun _ _ => fun _ => .bad) (fun _ => .bad) (fun _ _ _ _ _ => fun _ => .bad) (fun _ => .bad) (fun _ => fun _ => .bad) (fun _ _ _ _ _ => fun _ => .bad) (fun _ => .bad) (fun _ _ _ => fun _ => .bad) (fun _ => .bad) (fun _ _ => fun _ => .bad) (fun _ _ => fun _ => .bad) (fun _ => fun _ => .bad) PUnit.unit (fun _ _ _ _ => PUnit.unit) (fun _ _ _ _ => PUnit.unit) v
theorem onInt_eq (v : CV) (k : IntKind → Int → OR) : onInt v k = (match v with | .int q n => k q n | _ => .bad) := by cases v <;> rfl
noncomputable def onSlice (v : CV) : (Bp → Nat → Nat → Nat → Nat → OR) → OR := CV.rec (motive_1 := fun _ => (Bp → Nat → Nat → Nat → Nat → OR) → OR) (motive_2 := fun _ => PUnit) (fun _ => .bad) (fun _ => fun _ => .bad) (fun _ _ => fun _ => .bad) (fun _ _ => fun _ => .bad) (fun _ => .bad) (fun _ _ => fun _ => .bad) (fun _ => .bad) (fun b o l c g => fun k => k b o l c g) (fun _ => .bad) (fun _ => fun _ => .bad) (fun _ _ _ _ _ => fun _ => .bad) (fun _ => .bad) (fun _ _ _ => fun _ => .bad) (fun _ => .bad) (fun _ _ => fun _ => .bad) (fun _ _ => fun _ => .bad) (fun _ => fun _ => .bad) PUnit.unit (fun _ _ _ _ => PUnit.unit) (fun _ _ _ _ => PUnit.unit) v
theorem onSlice_eq (v : CV) (k : Bp → Nat → Nat → Nat → Nat → OR) : onSlice v k = (match v with | .slice b o l c g => k b o l c g | _ => .bad) := by cases v <;> rfl
noncomputable def onAgg (v : CV) : (Segs CV → OR) → OR := CV.rec (motive_1 := fun _ => (Segs CV → OR) → OR) (motive_2 := fun _ => PUnit) (fun _ => .bad) (fun _ => fun _ => .bad) (fun _ _ => fun _ => .bad) (fun _ _ => fun _ => .bad) (fun _ => .bad) (fun _ _ => fun _ => .bad) (fun _ => .bad) (fun _ _ _ _ _ => fun _ => .bad) (fun _ => .bad) (fun _ => fun _ => .bad) (fun _ _ _ _ _ => fun _ => .bad) (fun _ => .bad) (fun _ _ _ => fun _ => .bad) (fun _ => .bad) (fun s _ => fun k => k s) (fun _ _ => fun _ => .bad) (fun _ => fun _ => .bad) PUnit.unit (fun _ _ _ _ => PUnit.unit) (fun _ _ _ _ => PUnit.unit) v
theorem onAgg_eq (v : CV) (k : Segs CV → OR) : onAgg v k = (match v with | .agg s => k s | _ => .bad) := by cases v <;> rfl
noncomputable def onTuple (v : CV) : (Segs CV → OR) → OR := CV.rec (motive_1 := fun _ => (Segs CV → OR) → OR) (motive_2 := fun _ => PUnit) (fun _ => .bad) (fun _ => fun _ => .bad) (fun _ _ => fun _ => .bad) (fun _ _ => fun _ => .bad) (fun _ => .bad) (fun _ _ => fun _ => .bad) (fun _ => .bad) (fun _ _ _ _ _ => fun _ => .bad) (fun _ => .bad) (fun _ => fun _ => .bad) (fun _ _ _ _ _ => fun _ => .bad) (fun _ => .bad) (fun _ _ _ => fun _ => .bad) (fun _ => .bad) (fun _ _ => fun _ => .bad) (fun s _ => fun k => k s) (fun _ => fun _ => .bad) PUnit.unit (fun _ _ _ _ => PUnit.unit) (fun _ _ _ _ => PUnit.unit) v
theorem onTuple_eq (v : CV) (k : Segs CV → OR) : onTuple v k = (match v with | .tuple s => k s | _ => .bad) := by cases v <;> rfl
noncomputable def onStr (v : CV) : (Nat → Nat → OR) → OR := CV.rec (motive_1 := fun _ => (Nat → Nat → OR) → OR) (motive_2 := fun _ => PUnit) (fun _ => .bad) (fun _ => fun _ => .bad) (fun _ _ => fun _ => .bad) (fun n a => fun k => k n a) (fun _ => .bad) (fun _ _ => fun _ => .bad) (fun _ => .bad) (fun _ _ _ _ _ => fun _ => .bad) (fun _ => .bad) (fun _ => fun _ => .bad) (fun _ _ _ _ _ => fun _ => .bad) (fun _ => .bad) (fun _ _ _ => fun _ => .bad) (fun _ => .bad) (fun _ _ => fun _ => .bad) (fun _ _ => fun _ => .bad) (fun _ => fun _ => .bad) PUnit.unit (fun _ _ _ _ => PUnit.unit) (fun _ _ _ _ => PUnit.unit) v
theorem onStr_eq (v : CV) (k : Nat → Nat → OR) : onStr v k = (match v with | .str n a => k n a | _ => .bad) := by cases v <;> rfl

noncomputable def onBlk (x : Option Blk) : (Segs CV → TypeId → Bool → OR) → OR :=
  Option.rec (motive := fun _ => (Segs CV → TypeId → Bool → OR) → OR) (fun _ => .bad) (fun b => Blk.rec (motive := fun _ => (Segs CV → TypeId → Bool → OR) → OR) (fun s t g k => k s t g) (fun _ _ _ => .bad) (fun _ _ => .bad) b) x
theorem onBlk_eq (x : Option Blk) (k : Segs CV → TypeId → Bool → OR) : onBlk x k = (match x with | some (.cells s t g) => k s t g | _ => .bad) := by
  cases x with
  | none => rfl
  | some b => cases b <;> rfl

noncomputable def forceV {β : Type} (v : CV) : (CV → β) → β := CV.rec (motive_1 := fun _ => (CV → β) → β) (motive_2 := fun _ => PUnit) (fun k => k .undef) (fun b => fun k => k (.bool b)) (fun q n => fun k => forceZ n fun n => k (.int q n)) (fun a b => fun k => forceN a fun a => forceN b fun b => k (.str a b)) (fun k => k .nilptr) (fun b off => fun k => forceN off fun off => k (.ptr b off)) (fun k => k .nilslice) (fun b off len cap g => fun k => forceN off fun off => forceN len fun len => forceN cap fun cap => forceN g fun g => k (.slice b off len cap g)) (fun k => k .nilmap) (fun b => fun k => k (.map b)) (fun f a c _ _ => fun k => k (.func f a c)) (fun k => k .nilfunc) (fun t v _ => fun k => k (.iface t v)) (fun k => k .niliface) (fun s _ => fun k => s.force fun s => k (.agg s)) (fun s _ => fun k => s.force fun s => k (.tuple s)) (fun n => fun k => forceN n fun n => k (.atleast n)) PUnit.unit (fun _ _ _ _ => PUnit.unit) (fun _ _ _ _ => PUnit.unit) v
theorem forceV_eq {β : Type} (v : CV) (k : CV → β) : forceV v k = k v := by cases v <;> simp only [forceV, forceZ_eq, forceN_eq, Segs.force_eq]

/- numbers -/
noncomputable def hAr (op : BinOp) : IntKind → Int → Int → St → OR := BinOp.rec (motive := fun _ => IntKind → Int → Int → St → OR) (fun k a b st => forceZ (fwrap k (Int.add a b)) (okZ k st)) (fun k a b st => forceZ (fwrap k (Int.sub a b)) (okZ k st)) (fun k a b st => forceZ (fwrap k (Int.mul a b)) (okZ k st)) (fun k a b st => bsel (zeq b 0) .bad (forceZ (fwrap k (Int.tdiv a b)) (okZ k st))) (fun k a b st => bsel (zeq b 0) .bad (forceZ (Int.tmod a b) (okZ k st))) (fun k a b st => pBits .and k a b st) (fun k a b st => pBits .or k a b st) (fun k a b st => pBits .xor k a b st) (fun _ _ _ _ => .bad) (fun _ _ _ _ => .bad) (fun k a b st => pBits .andNot k a b st) (fun _ a b st => okB (zeq a b) st) (fun _ a b st => okB (Bool.not (zeq a b)) st) (fun _ a b st => okB (zlt a b) st) (fun _ a b st => okB (Bool.not (zlt b a)) st) (fun _ a b st => okB (zlt b a) st) (fun _ a b st => okB (Bool.not (zlt a b)) st) op
theorem hAr_eq (op : BinOp) (k : IntKind) (a b : Int) (st : St) : hAr op k a b st = pInt2 op k a b st := by cases op <;> rfl
noncomputable def hInt (op : BinOp) : IntKind → Int → IntKind → Int → St → OR := BinOp.rec (motive := fun _ => IntKind → Int → IntKind → Int → St → OR) (fun k a j b st => bsel (kbeq k j) (hAr .add k a b st) .bad) (fun k a j b st => bsel (kbeq k j) (hAr .sub k a b st) .bad) (fun k a j b st => bsel (kbeq k j) (hAr .mul k a b st) .bad) (fun k a j b st => bsel (kbeq k j) (hAr .quo k a b st) .bad) (fun k a j b st => bsel (kbeq k j) (hAr .rem k a b st) .bad) (fun k a j b st => bsel (kbeq k j) (hAr .and k a b st) .bad) (fun k a j b st => bsel (kbeq k j) (hAr .or k a b st) .bad) (fun k a j b st => bsel (kbeq k j) (hAr .xor k a b st) .bad) (fun k a _ b st => bsel (zlt b 0) .bad (forceZ (shlZ k a (upto b.toNat (kbits k))) (okZ k st))) (fun k a _ b st => bsel (zlt b 0) .bad (forceZ (shrZ a (upto b.toNat (kbits k))) (okZ k st))) (fun k a j b st => bsel (kbeq k j) (hAr .andNot k a b st) .bad) (fun k a j b st => bsel (kbeq k j) (hAr .eql k a b st) .bad) (fun k a j b st => bsel (kbeq k j) (hAr .neq k a b st) .bad) (fun k a j b st => bsel (kbeq k j) (hAr .lss k a b st) .bad) (fun k a j b st => bsel (kbeq k j) (hAr .leq k a b st) .bad) (fun k a j b st => bsel (kbeq k j) (hAr .gtr k a b st) .bad) (fun k a j b st => bsel (kbeq k j) (hAr .geq k a b st) .bad) op
theorem hInt_eq (op : BinOp) (k j : IntKind) (a b : Int) (st : St) : hInt op k a j b st = pInt op k a j b st := by cases op <;> (unfold hInt pInt; simp only [hAr_eq])
noncomputable def hBinI (y : CV) : IntKind → Int → BinOp → Option EqD → Bool → St → OR := CV.rec (motive_1 := fun _ => IntKind → Int → BinOp → Option EqD → Bool → St → OR) (motive_2 := fun _ => PUnit) (fun k a op d cst st => pBin op d cst (.int k a) (.undef) st) (fun y0 => fun k a op d cst st => pBin op d cst (.int k a) (.bool y0) st) (fun y0 y1 => fun k a op _ _ st => hInt op k a y0 y1 st) (fun y0 y1 => fun k a op d cst st => pBin op d cst (.int k a) (.str y0 y1) st) (fun k a op d cst st => pBin op d cst (.int k a) (.nilptr) st) (fun y0 y1 => fun k a op d cst st => pBin op d cst (.int k a) (.ptr y0 y1) st) (fun k a op d cst st => pBin op d cst (.int k a) (.nilslice) st) (fun y0 y1 y2 y3 y4 => fun k a op d cst st => pBin op d cst (.int k a) (.slice y0 y1 y2 y3 y4) st) (fun k a op d cst st => pBin op d cst (.int k a) (.nilmap) st) (fun y0 => fun k a op d cst st => pBin op d cst (.int k a) (.map y0) st) (fun y0 y1 y2 _ _ => fun k a op d cst st => pBin op d cst (.int k a) (.func y0 y1 y2) st) (fun k a op d cst st => pBin op d cst (.int k a) (.nilfunc) st) (fun y0 y1 _ => fun k a op d cst st => pBin op d cst (.int k a) (.iface y0 y1) st) (fun k a op d cst st => pBin op d cst (.int k a) (.niliface) st) (fun y0 _ => fun k a op d cst st => pBin op d cst (.int k a) (.agg y0) st) (fun y0 _ => fun k a op d cst st => pBin op d cst (.int k a) (.tuple y0) st) (fun y0 => fun k a op d cst st => pBin op d cst (.int k a) (.atleast y0) st) PUnit.unit (fun _ _ _ _ => PUnit.unit) (fun _ _ _ _ => PUnit.unit) y
theorem hBinI_eq (y : CV) (k : IntKind) (a : Int) (op : BinOp) (d : Option EqD) (cst : Bool) (st : St) : hBinI y k a op d cst st = pBin op d cst (.int k a) y st := by cases y <;> first | rfl | exact hInt_eq ..
noncomputable def hBin (x : CV) : CV → BinOp → Option EqD → Bool → St → OR := CV.rec (motive_1 := fun _ => CV → BinOp → Option EqD → Bool → St → OR) (motive_2 := fun _ => PUnit) (fun y op d cst st => pBin op d cst (.undef) y st) (fun x0 => fun y op d cst st => pBin op d cst (.bool x0) y st) (fun x0 x1 => fun y op d cst st => hBinI y x0 x1 op d cst st) (fun x0 x1 => fun y op d cst st => pBin op d cst (.str x0 x1) y st) (fun y op d cst st => pBin op d cst (.nilptr) y st) (fun x0 x1 => fun y op d cst st => pBin op d cst (.ptr x0 x1) y st) (fun y op d cst st => pBin op d cst (.nilslice) y st) (fun x0 x1 x2 x3 x4 => fun y op d cst st => pBin op d cst (.slice x0 x1 x2 x3 x4) y st) (fun y op d cst st => pBin op d cst (.nilmap) y st) (fun x0 => fun y op d cst st => pBin op d cst (.map x0) y st) (fun x0 x1 x2 _ _ => fun y op d cst st => pBin op d cst (.func x0 x1 x2) y st) (fun y op d cst st => pBin op d cst (.nilfunc) y st) (fun x0 x1 _ => fun y op d cst st => pBin op d cst (.iface x0 x1) y st) (fun y op d cst st => pBin op d cst (.niliface) y st) (fun x0 _ => fun y op d cst st => pBin op d cst (.agg x0) y st) (fun x0 _ => fun y op d cst st => pBin op d cst (.tuple x0) y st) (fun x0 => fun y op d cst st => pBin op d cst (.atleast x0) y st) PUnit.unit (fun _ _ _ _ => PUnit.unit) (fun _ _ _ _ => PUnit.unit) x
theorem hBin_eq (x y : CV) (op : BinOp) (d : Option EqD) (cst : Bool) (st : St) : hBin x y op d cst st = pBin op d cst x y st := by cases x <;> first | rfl | exact hBinI_eq ..

noncomputable def hLoad1 (p : CV) (st : St) : OR := onPtr p fun b off => onBlk (st.mem.get b) fun s _ _ => Option.rec .bad (fun v => .ok v st) (s.get byteV off)
theorem hLoad1_eq (p : CV) (st : St) : hLoad1 p st = pLoad1 p st := by unfold hLoad1 pLoad1; rw [onPtr_eq]; simp only [onBlk_eq]; rfl
noncomputable def hLoadN (n : Nat) (p : CV) (st : St) : OR := onPtr p fun b off => onBlk (st.mem.get b) fun s _ _ => Option.rec .bad (fun v => .ok (.agg v) st) (s.extract off n)
theorem hLoadN_eq (n : Nat) (p : CV) (st : St) : hLoadN n p st = pLoadN n p st := by unfold hLoadN pLoadN; rw [onPtr_eq]; simp only [onBlk_eq]; rfl
noncomputable def hStore (n : Nat) (p x : CV) (st : St) : OR := onPtr p fun b off => onBlk (st.mem.get b) fun s t g =>
  (fun xs => bsel (Bool.and (Nat.beq xs.size n) (oneCells xs)) (Option.rec .bad (fun s' => .ok .undef ⟨st.mem.put b (some (.cells s' t g)), st.next⟩) (s.write off xs)) .bad) x.segs
theorem hStore_eq (n : Nat) (p x : CV) (st : St) : hStore n p x st = pStore n p x st := by unfold hStore pStore; rw [onPtr_eq]; simp only [onBlk_eq]; rfl
noncomputable def hFieldAddr (off : Nat) (x : CV) (st : St) : OR := onPtr x fun b o => forceN (Nat.add o off) fun o => .ok (.ptr b o) st
theorem hFieldAddr_eq (off : Nat) (x : CV) (st : St) : hFieldAddr off x st = pFieldAddr off x st := by unfold hFieldAddr pFieldAddr; rw [onPtr_eq]; rfl
noncomputable def hField (agg : Bool) (off size : Nat) (x : CV) (st : St) : OR := onAgg x fun s => Option.rec .bad (fun v => .ok v st) (cpart agg off size s)
theorem hField_eq (agg : Bool) (off size : Nat) (x : CV) (st : St) : hField agg off size x st = pField agg off size x st := by unfold hField pField; rw [onAgg_eq]; rfl
noncomputable def hExtract (x : CV) (i : Nat) (st : St) : OR := onTuple x fun s => Option.rec .bad (fun v => .ok v st) (s.get byteV i)
theorem hExtract_eq (x : CV) (i : Nat) (st : St) : hExtract x i st = pExtract x i st := by unfold hExtract pExtract; rw [onTuple_eq]; rfl
noncomputable def onNat (v : CV) (k : Nat → OR) : OR := onInt v fun _ n => Int.rec (motive := fun _ => (Nat → OR) → OR) (fun j k => k j) (fun _ _ => .bad) n k
theorem onNat_eq (v : CV) (k : Nat → OR) : onNat v k = (match v with | .int _ (.ofNat j) => k j | _ => .bad) := by
  unfold onNat; rw [onInt_eq]
  cases v with
  | int q n => cases n <;> rfl
  | _ => rfl
noncomputable def hIdxArr (n size : Nat) (x i : CV) (st : St) : OR := onPtr x fun b o => onNat i fun j => bsel (Nat.ble (Nat.succ j) n) (forceN (Nat.add o (Nat.mul j size)) fun o => .ok (.ptr b o) st) .bad
theorem hIdxArr_eq (n size : Nat) (x i : CV) (st : St) : hIdxArr n size x i st = pIdxArr n size x i st := by
  unfold hIdxArr pIdxArr; rw [onPtr_eq]; simp only [onNat_eq]
  cases x with
  | ptr b o => cases i with
    | int q n => cases n <;> rfl
    | _ => rfl
  | _ => rfl
noncomputable def hIdxSl (size : Nat) (x i : CV) (st : St) : OR := onSlice x fun b o len cap grow => onNat i fun j => bsel (Bool.and (Nat.ble (Nat.succ j) len) (Bool.or (Nat.beq grow 0) (Nat.ble len cap))) (forceN (Nat.add o (Nat.mul j size)) fun o => .ok (.ptr b o) st) .bad
theorem hIdxSl_eq (size : Nat) (x i : CV) (st : St) : hIdxSl size x i st = pIdxSl size x i st := by
  unfold hIdxSl pIdxSl; rw [onSlice_eq]; simp only [onNat_eq]
  cases x with
  | slice b o l c g => cases i with
    | int q n => cases n <;> rfl
    | _ => rfl
  | _ => rfl
noncomputable def hIdxStr (x i : CV) (st : St) : OR := onStr x fun n a => onNat i fun j => bsel (Nat.ble (Nat.succ j) n) (forceN (bTake (bDrop a j) 1) (okN .u8 st)) .bad
theorem hIdxStr_eq (x i : CV) (st : St) : hIdxStr x i st = pIdxStr x i st := by
  unfold hIdxStr pIdxStr; rw [onStr_eq]; simp only [onNat_eq]
  cases x with
  | str n a => cases i with
    | int q n => cases n <;> rfl
    | _ => rfl
  | _ => rfl

noncomputable def runOpH (op : COp) : CallF → Fr → St → OR := COp.rec (motive := fun _ => CallF → Fr → St → OR)
  (fun x _ fr st => .ok (ev fr x) st)
  (fun c a b _ fr st => pPick (ev fr c) (ev fr a) (ev fr b) st)
  (fun t z _ _ st => pNew t z st)
  (fun t x _ fr st => (ev fr x).segs.force fun s => pNew t s st)
  (fun z parts _ fr st => pBuild z (evP fr parts) st)
  (fun e len z parts _ fr st => pBuildSlice e len (repS len z) (evP fr parts) st)
  (fun a _ fr st => hLoad1 (ev fr a) st)
  (fun n a _ fr st => hLoadN n (ev fr a) st)
  (fun n a x _ fr st => hStore n (ev fr a) (ev fr x) st)
  (fun x _ fr st => pNil (ev fr x) st)
  (fun op d cst x y _ fr st => hBin (ev fr x) (ev fr y) op d cst st)
  (fun op x _ fr st => pUn op (ev fr x) st)
  (fun c x _ fr st => pConv c (ev fr x) st)
  (fun n x _ fr st => pS2ap n (ev fr x) st)
  (fun t x _ fr st => pIface t (ev fr x) st)
  (fun fn f c _ fr st => pFunc fn (evL fr f) (evL fr c) st)
  (fun r _ fr st => pMkMap (evO fr r) st)
  (fun e bytes z l c _ fr st => pMake e bytes z (ev fr l) (ev fr c) st)
  (fun x lo hi _ fr st => pSliceStr (ev fr x) (evO fr lo) (evO fr hi) st)
  (fun size x lo hi _ fr st => pSliceSl size (ev fr x) (evO fr lo) (evO fr hi) st)
  (fun size x lo hi mx _ fr st => pSlice3 size (ev fr x) (evO fr lo) (ev fr hi) (ev fr mx) st)
  (fun n size x lo hi _ fr st => pSliceArr n size (ev fr x) (evO fr lo) (evO fr hi) st)
  (fun off x _ fr st => hFieldAddr off (ev fr x) st)
  (fun agg off size x _ fr st => hField agg off size (ev fr x) st)
  (fun n size x i _ fr st => hIdxArr n size (ev fr x) (ev fr i) st)
  (fun size x i _ fr st => hIdxSl size (ev fr x) (ev fr i) st)
  (fun x i _ fr st => hIdxStr (ev fr x) (ev fr i) st)
  (fun n size agg x i _ fr st => pIdxAgg n size agg (ev fr x) (ev fr i) st)
  (fun d z ok x k _ fr st => pLookup d z ok (ev fr x) (ev fr k) st)
  (fun d m k x _ fr st => pMapUpdate d (ev fr m) (ev fr k) (ev fr x) st)
  (fun d z m k _ fr st => pMapEntry d z (ev fr m) (ev fr k) st)
  (fun m s x _ fr st => pEntryStore (ev fr m) (ev fr s) (ev fr x) st)
  (fun x i _ fr st => hExtract (ev fr x) i st)
  (fun k x _ fr st => pLen k (ev fr x) st)
  (fun e size bytes z k s x _ fr st => pAppend e size bytes (ev fr s) (srcOf k size z (ev fr x) st) st)
  (fun str size d s _ fr st => pCopy str size (ev fr d) (ev fr s) st)
  (fun z x _ fr st => pClear z (ev fr x) st)
  (fun mx x y _ fr st => pMM mx (ev fr x) (ev fr y) st)
  (fun d m k _ fr st => pDelete d (ev fr m) (ev fr k) st)
  (fun f args call fr st => call f (evL fr args) st)
  (fun f args call fr st => pCallv call (ev fr f) (evL fr args) st) op
theorem runOpH_eq (op : COp) (call : CallF) (fr : Fr) (st : St) : runOpH op call fr st = runOp call op fr st := by
  cases op <;> first
    | rfl
    | exact hLoad1_eq ..
    | exact hLoadN_eq ..
    | exact hStore_eq ..
    | exact hFieldAddr_eq ..
    | exact hField_eq ..
    | exact hExtract_eq ..
    | exact hIdxArr_eq ..
    | exact hIdxSl_eq ..
    | exact hIdxStr_eq ..
    | exact hBin_eq ..
end Sim
