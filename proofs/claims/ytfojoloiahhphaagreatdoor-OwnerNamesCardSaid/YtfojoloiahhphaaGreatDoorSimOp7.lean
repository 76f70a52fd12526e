import Derived.Test.YtfojoloiahhphaaGreatDoorSimOp6
/- Sim, part 13: copy, clear, min, max, maps. -/
namespace Sim
open Go

noncomputable def lenS (x : CV) : Option Nat := match x with | .nilslice => some 0 | .slice _ _ len _ _ => some len | .str n _ => some n | _ => none
noncomputable def cellsOf (str : Bool) (size n : Nat) (x : CV) (st : St) : Option (Segs CV) :=
  bsel str (match x with | .str m a => bsel (Nat.ble n m) (some (bsel (Nat.beq n 0) .nil (.bytes n (bTake a n) .nil))) none | _ => none) (sliceCells size n x st)
/-- A row that grows into room that is known to be there. -/
noncomputable def extW (s : Segs CV) (off : Nat) (t : Segs CV) (lim : Nat) : Option (Segs CV) :=
  bsel (Bool.and (Nat.ble off s.size) (Bool.and (Nat.ble s.size (Nat.add off t.size)) (Nat.ble (Nat.add off t.size) lim))) (((s.take off).app t).force some) none
noncomputable def pCopy (str : Bool) (size : Nat) (d s : CV) (st : St) : OR :=
  match d, lenS s with
  | .nilslice, some _ => (match cellsOf str size 0 s st with | some _ => okN .i64 st 0 | none => .bad)
  | .slice b off len cap grow, some m => forceN (upto m len) fun n =>
      (match cellsOf str size n s st with
      | some t => bsel (Nat.beq n 0) (okN .i64 st 0)
        (bsel (Bool.and (oneCells t) (Bool.or (Nat.beq grow 0) (Nat.ble 1 cap)))
          (match st.mem.get b with
          | some (.cells s ty g) => Option.rec (Option.rec .bad (fun s' => okN .i64 ⟨st.mem.put b (some (.cells s' ty g)), st.next⟩ n) (extW s off t (Nat.add off (Nat.mul cap grow)))) (fun s' => okN .i64 ⟨st.mem.put b (some (.cells s' ty g)), st.next⟩ n) (s.write off t)
          | _ => .bad) .bad)
      | none => .bad)
  | _, _ => .bad

section
variable {P : Program} {ρ : Ren} {st st' : St} {w : World} {v : CV}

theorem After.grow {b : Bp} {s t s' : Segs CV} {ty : TypeId} {g : Bool} {off lim r sz : Nat} {vs : List Value} (h : WR ρ st w)
    (h1 : st.mem.get b = some (.cells s ty g)) (h2 : ρ b = some (r, sz)) (hw : extW s off t lim = some s') (hlim : lim ≤ sz) (hv : VRs ρ (row t) vs) (ho : oneCells t = true) :
    ∃ w', (storeCells ⟨r, off, none⟩ vs).run P w = .ok () w' ∧ After ρ st w ρ (st.set b (.cells s' ty g)) w' := by
  obtain ⟨c, lo, hi, e1, e2, e3, e4, e5⟩ := h.row h1 h2
  unfold extW at hw
  simp only [bsel_eq, Bool.and_eq_true, Nat.ble_eq, Segs.force_eq] at hw
  split at hw
  · rename_i hh
    obtain ⟨a1, a2, a3⟩ := hh
    have a2' : s.size ≤ off + t.size := a2
    have a3' : off + t.size ≤ lim := a3
    cases hw
    have hlen : vs.length = t.size := by rw [← hv.len, row_length]
    have hone : ∀ v ∈ vs, v.oneCell' = true := fun v hm => by
      obtain ⟨i, hi', rfl⟩ := List.getElem_of_mem hm
      have : i < (row t).length := hv.len ▸ hi'
      exact oneCell_real (hv.at' i (row t)[i] _ (by simp) (by simp)) (oneCells_row t ho _ (List.getElem_mem _))
    have hrun := run_storeCells_row P r off ty lo hi vs 0 c w e1 e5 (by omega) hone
    refine ⟨_, hrun, ?_⟩
    have hs' : ((s.take off).app t).size = off + t.size := by
      rw [← row_length, row, Segs.cells_app, Segs.cells_take, List.length_append, List.length_take, Segs.cells_length, Segs.cells_length]; omega
    have hnew := setRow_heap w r c (c.toList.take (off + 0) ++ vs ++ c.toList.drop (off + 0 + vs.length)).toArray ty (lo, hi) e1
    have hcs : (c.toList.take (off + 0) ++ vs ++ c.toList.drop (off + 0 + vs.length)).toArray.size = sz := by
      simp only [List.size_toArray, List.length_append, List.length_take, List.length_drop, Array.length_toList]; omega
    refine After.set h h1 h2 hnew ?_ (fun k hk => setRow_other w r _ k hk) (setRow_size w r _) rfl rfl
    have hb := BR.cells (ρ := ρ) ((s.take off).app t) ty g (c.toList.take (off + 0) ++ vs ++ c.toList.drop (off + 0 + vs.length)).toArray lo hi (by rw [hcs, hs']; omega) ?_ (by rw [hcs]; rw [e2] at e5; exact e5) (h.rowG h1 h2 e1)
    · rw [hcs] at hb; exact hb
    · rw [hs', row, Segs.cells_app, Segs.cells_take]
      have e : (c.toList.take (off + 0) ++ vs ++ c.toList.drop (off + 0 + vs.length)).toArray.toList.take (off + t.size) = (c.toList.take s.size).take off ++ vs := by
        simp only [Nat.add_zero]
        rw [List.take_left' (by simp only [List.length_append, List.length_take, Array.length_toList]; omega), List.take_take, Nat.min_eq_left a1]
      rw [e]
      exact (e4.take off).app hv
  · cases hw

theorem cellsOf_sound {str : Bool} {size n : Nat} {x : CV} {x' : Value} {t : Segs CV} (h : cellsOf str size n x st = some t) (hn : ∀ m, lenS x = some m → n ≤ m) (hw : WR ρ st w) (hx : VR ρ x x') (hs : str = true → size = 1) :
    ∃ vs, VRs ρ (row t) vs ∧ vs.length = n * size ∧ (Builtin.firstCells size n x').run P w = .ok vs.toArray w := by
  unfold cellsOf at h
  rw [bsel_eq] at h
  split at h
  · rename_i hstr
    have hs := hs hstr
    subst hs
    split at h
    · rename_i m a
      simp only [bsel_eq, Nat.ble_eq, Nat.beq_eq] at h
      split at h
      · rename_i hle
        cases h; cases hx
        refine ⟨((ub n a).map fun y : Nat => Value.int .u8 (y : Int)), ?_, by simp, ?_⟩
        · split
          · rename_i h0; subst h0; exact VRs.nil ρ
          · rw [bTake_eq]
            have : row (Segs.bytes n (a % 256 ^ n) .nil) = (ub n a).map byteV := by simp [row, Segs.cells, ub_mod]
            rw [this]; exact VRs.bytes ρ (ub n a)
        · simp only [Builtin.firstCells, Sem.run_pure]
          congr 1
          apply Array.ext'
          rw [strB_extract m a 0 n (by omega) hle, Nat.sub_zero, bTake_eq, bDrop_eq, Nat.pow_zero, Nat.div_one]
          rw [cell_u8, Array.toList_map, strB_toList, ub_mod, List.map_map, List.map_map]; rfl
      · cases h
    · cases h
  · obtain ⟨vs, g1, g2, g3⟩ := sliceCells_sound (P := P) h (fun e he hne => by subst he; have := hn 0 rfl; omega) hw hx
    exact ⟨vs, g1, g2, g3 w rfl⟩

theorem pCopy_sound {str : Bool} {size : Nat} {dT sT ty e : TypeId} {i : TypeInfo} {d s : CV} {d' s' : Value} (h : pCopy str size d s st = .ok v st') (hw : WR ρ st w) (hd : VR ρ d d') (hs : VR ρ s s')
    (hu : P.underlying dT = some (.slice e)) (hi : P.info? e = some i) (hsz : i.size = size) (h1 : str = true → size = 1) : DoesV P (Builtin.copy_ #[dT, sT] ty #[d', s']) ρ st w v st' := by
  have hsize : (Go.sizeOf e).run P w = .ok size w := by simp [Go.sizeOf, typeInfo, hi, hsz]
  have hlen : ∀ m, lenS s = some m → (Builtin.lenOf s').run P w = .ok m w := fun m hm => by
    unfold lenS at hm
    split at hm
    · cases hm; cases hs; rfl
    · cases hm; obtain ⟨r, sz, off', cap', rfl, _⟩ := hs.slice_inv; rfl
    · cases hm; cases hs; simp [Builtin.lenOf]
    · cases hm
  unfold pCopy at h
  split at h
  · rename_i m hm
    split at h
    · rename_i t ht
      cases h; cases hd
      obtain ⟨vs, g1, g2, g3⟩ := cellsOf_sound (P := P) ht (fun _ _ => Nat.zero_le _) hw hs h1
      refine DoesV.still hw ?_ (.int _ _)
      simp [Builtin.copy_, run_underlying hu, hlen m hm, hsize, g3, goInt]
    · cases h
  · rename_i b off len cap grow m hm
    rw [forceN_eq] at h
    obtain ⟨r, sz, off', cap', rfl, hr, c1, c2, c3, c4⟩ := hd.slice_inv
    split at h
    · rename_i t ht
      obtain ⟨vs, g1, g2, g3⟩ := cellsOf_sound (P := P) ht (fun m' hm' => by rw [hm] at hm'; cases hm'; rw [upto_eq]; exact Nat.min_le_left _ _) hw hs h1
      simp only [bsel_eq, Nat.beq_eq, Bool.and_eq_true, Bool.or_eq_true, Nat.ble_eq] at h
      have hmin : Nat.min m len = upto m len := by rw [upto_eq]
      split at h
      · rename_i h0
        cases h
        have hv : vs = [] := by apply List.length_eq_zero_iff.1; rw [g2, h0, Nat.zero_mul]
        subst hv
        refine DoesV.still hw ?_ (.int _ _)
        rw [h0] at g3
        simp [Builtin.copy_, run_underlying hu, hlen m hm, hmin, h0, hsize, g3, goInt, storeCells]
      · rename_i h0
        split at h
        · rename_i hg
          have ho : off' = off := by
            rcases hg.2 with hg | hg
            · exact (c3 hg).2
            · exact c1 (by omega)
          subst ho
          split at h
          · rename_i sg tg gg hmm
            cases hwr : sg.write off' t with
            | none =>
              rw [hwr] at h
              dsimp only at h
              cases hx : extW sg off' t (Nat.add off' (Nat.mul cap grow)) with
              | none => rw [hx] at h; cases h
              | some s2 =>
                rw [hx] at h; cases h
                by_cases hg0 : grow = 0
                · subst hg0
                  unfold extW at hx
                  simp only [bsel_eq, Bool.and_eq_true, Nat.ble_eq] at hx
                  split at hx
                  · rename_i hh
                    exfalso
                    obtain ⟨a1, a2, a3⟩ := hh
                    have a1' : off' ≤ sg.size := a1
                    have a2' : sg.size ≤ off' + t.size := a2
                    have a3' : off' + t.size ≤ off' + cap * 0 := a3
                    have hw2 : sg.write off' t ≠ none := by
                      unfold Segs.write
                      simp only [bsel_eq, Nat.ble_eq, Segs.force_eq]
                      rw [if_pos (show off'.add t.size ≤ sg.size by show off' + t.size ≤ sg.size; omega)]
                      simp
                    exact hw2 hwr
                  · cases hx
                · obtain ⟨f1, f2⟩ := c4 (by omega)
                  have hlim : Nat.add off' (Nat.mul cap grow) ≤ sz := by
                    show off' + cap * grow ≤ sz
                    have := Nat.mul_le_mul_right grow c2
                    omega
                  obtain ⟨w', k1, k2⟩ := After.grow (P := P) hw hmm hr hx hlim g1 hg.1
                  refine ⟨_, w', ρ, ?_, .int .i64 _, k2⟩
                  simp [Builtin.copy_, run_underlying hu, hlen m hm, hmin, hsize, g3, k1, goInt]
            | some s2 =>
              rw [hwr] at h; cases h
              obtain ⟨w', k1, k2⟩ := After.write (P := P) hw hmm hr hwr g1 hg.1
              refine ⟨_, w', ρ, ?_, .int .i64 _, k2⟩
              simp [Builtin.copy_, run_underlying hu, hlen m hm, hmin, hsize, g3, k1, goInt]
          · cases h
        · cases h
    · cases h
  · cases h

/- clear -/
noncomputable def pClear (z : Segs CV) (x : CV) (st : St) : OR :=
  match x with
  | .nilslice => .ok .undef st
  | .slice b off len cap grow => bsel (Nat.beq len 0) (.ok .undef st)
      (bsel (Bool.or (Nat.beq grow 0) (Nat.ble 1 cap))
        (match st.mem.get b with
        | some (.cells s ty g) => (fun t => bsel (oneCells t) (Option.rec .bad (fun s' => .ok .undef ⟨st.mem.put b (some (.cells s' ty g)), st.next⟩) (s.write off t)) .bad) (repS len z)
        | _ => .bad) .bad)
  | _ => .bad
theorem pClear_sound {t ty e : TypeId} {i : TypeInfo} {z : Segs CV} {z' : Value} {x : CV} {x' : Value} (h : pClear z x st = .ok v st') (hw : WR ρ st w) (hx : VR ρ x x')
    (hu : P.underlying t = some (.slice e)) (hi : P.info? e = some i) (hz : i.zero = some z') (hzz : ∀ ρ, VRs ρ (row z) z'.cells.toList) : DoesV P (Builtin.clear_ #[t] ty #[x']) ρ st w v st' := by
  have hun : VR ρ .undef (.tuple #[]) := .undef
  have hzv : (zeroValue e).run P w = .ok z' w := by simp [zeroValue, typeInfo, hi, hz]
  unfold pClear at h
  split at h
  · cases h; cases hx
    exact DoesV.still hw (by simp [Builtin.clear_, run_underlying hu]) hun
  · rename_i b off len cap grow
    obtain ⟨r, sz, off', cap', rfl, hr, c1, c2, c3, c4⟩ := hx.slice_inv
    simp only [bsel_eq, Nat.beq_eq, Bool.or_eq_true, Nat.ble_eq] at h
    split at h
    · rename_i h0
      subst h0
      cases h
      exact DoesV.still hw (by simp [Builtin.clear_, run_underlying hu]) hun
    · rename_i h0
      split at h
      · rename_i hg
        have ho : off' = off := by
          rcases hg with hg | hg
          · exact (c3 hg).2
          · exact c1 (by omega)
        subst ho
        split at h
        · rename_i sg tg gg hm
          split at h
          · rename_i hone
            cases hwr : sg.write off' (repS len z) with
            | none => rw [hwr] at h; cases h
            | some s2 =>
              rw [hwr] at h; cases h
              have hv : VRs ρ (row (repS len z)) (Builtin.zeroCells z'.cells len).toList := by
                rw [row_repS, Builtin.zeroCells, Array.toList_map, Array.toList_range, range_mod]
                exact (hzz ρ).flatten len
              obtain ⟨w', k1, k2⟩ := After.write (P := P) hw hm hr hwr hv hone
              refine ⟨_, w', ρ, ?_, .undef, k2⟩
              obtain ⟨len', rfl⟩ : ∃ k, len = k + 1 := ⟨len - 1, by omega⟩
              simp [Builtin.clear_, run_underlying hu, hzv, k1]
          · cases h
        · cases h
      · cases h
  · cases h

/- min, max -/
noncomputable def pMM (mx : Bool) (x y : CV) (st : St) : OR :=
  match x, y with
  | .int k a, .int j b => bsel (kbeq k j) (.ok (.int k (bsel mx (bsel (zlt a b) b a) (bsel (zlt b a) b a))) st) .bad
  | _, _ => .bad
theorem pMM_sound {mx : Bool} {x y : CV} {x' y' : Value} {ats : Array TypeId} {ty : TypeId} (h : pMM mx x y st = .ok v st') (hw : WR ρ st w) (hx : VR ρ x x') (hy : VR ρ y y') :
    DoesV P (bif mx then Builtin.max_ ats ty #[x', y'] else Builtin.min_ ats ty #[x', y']) ρ st w v st' := by
  unfold pMM at h
  split at h
  · rename_i k a j b
    rw [bsel_eq] at h
    split at h
    · rename_i hk
      rw [kbeq_iff] at hk; subst hk
      cases h; cases hx; cases hy
      refine DoesV.still hw ?_ (.int _ _)
      cases mx
      · simp only [cond_false, Builtin.min_, List.foldlM_cons, List.foldlM_nil, Builtin.min2, bind_pure, Sem.run_pure, bsel_eq, zlt_iff]
        rfl
      · simp only [cond_true, Builtin.max_, List.foldlM_cons, List.foldlM_nil, Builtin.max2, bind_pure, Sem.run_pure, bsel_eq, zlt_iff]
        rfl
    · cases h
  · cases h

/- keys of maps -/
noncomputable def scalC (x y : CV) : Bool :=
  match x, y with
  | .bool a, .bool b => Bool.rec (Bool.not b) b a
  | .int j a, .int k b => Bool.and (kbeq j k) (zeq a b)
  | .str n a, .str m b => seq n a m b
  | _, _ => false
noncomputable def sameS (s : Segs CV) : Segs CV → Bool :=
  Segs.rec (motive := fun _ => Segs CV → Bool) (fun t => match t with | .nil => true | _ => false)
    (fun v _ ih t => match t with | .one u r => Bool.and (scalC v u) (ih r) | _ => false)
    (fun n a _ ih t => match t with | .bytes m b r => Bool.and (Bool.and (Nat.beq n m) (Nat.beq (bTake a n) (bTake b n))) (ih r) | _ => false) s
noncomputable def sameC (x y : CV) : Bool := match x, y with | .agg s, .agg t => sameS s t | x, y => scalC x y

theorem scalC_sound {x y : CV} {x' y' : Value} (h : scalC x y = true) (hx : VR ρ x x') (hy : VR ρ y y') (n : Nat) : x' = y' ∧ Instr.sameBits n x' y' = true := by
  unfold scalC at h
  split at h
  · cases hx; cases hy
    rename_i a b
    have : a = b := by cases a <;> cases b <;> simp_all
    subst this
    exact ⟨rfl, by simp [Instr.sameBits]⟩
  · simp only [Bool.and_eq_true, kbeq_iff, zeq_iff] at h
    cases hx; cases hy
    obtain ⟨rfl, rfl⟩ := h
    exact ⟨rfl, by simp [Instr.sameBits]⟩
  · cases hx; cases hy
    rw [seq_iff] at h
    rw [h]
    exact ⟨rfl, by simp [Instr.sameBits, beq_toListBytes]⟩
  · cases h
theorem sameS_nil (t : Segs CV) : sameS .nil t = (match t with | .nil => true | _ => false) := rfl
theorem sameS_one (v : CV) (r t : Segs CV) : sameS (.one v r) t = (match t with | .one u r' => Bool.and (scalC v u) (sameS r r') | _ => false) := rfl
theorem sameS_bytes (k a : Nat) (r t : Segs CV) : sameS (.bytes k a r) t = (match t with | .bytes j b r' => Bool.and (Bool.and (Nat.beq k j) (Nat.beq (bTake a k) (bTake b k))) (sameS r r') | _ => false) := rfl
theorem sameS_sound (n : Nat) : ∀ (s t : Segs CV) (l m : List Value), sameS s t = true → VRs ρ (row s) l → VRs ρ (row t) m → l = m ∧ (l.zip m).all (fun (x, y) => Instr.sameBits n x y) = true := by
  intro s
  induction s with
  | nil =>
    intro t l m h h1 h2
    rw [sameS_nil] at h
    split at h
    · have a := h1.len; have b := h2.len
      simp only [row, Segs.cells, List.length_nil] at a b
      have a := List.length_eq_zero_iff.1 a.symm; have b := List.length_eq_zero_iff.1 b.symm
      subst a; subst b; exact ⟨rfl, rfl⟩
    · cases h
  | one v r ih =>
    intro t l m h h1 h2
    rw [sameS_one] at h
    split at h
    · rename_i u r'
      simp only [Bool.and_eq_true] at h
      obtain ⟨v', l', rfl, a1, a2⟩ := VRs.inv (l := row r) h1
      obtain ⟨u', m', rfl, b1, b2⟩ := VRs.inv (l := row r') h2
      obtain ⟨rfl, s1⟩ := scalC_sound h.1 a1 b1 n
      obtain ⟨rfl, s2⟩ := ih r' l' m' h.2 a2 b2
      exact ⟨rfl, by simp only [List.zip_cons_cons, List.all_cons, s1, s2, Bool.and_true]⟩
    · cases h
  | bytes k a r ih =>
    intro t l m h h1 h2
    rw [sameS_bytes] at h
    split at h
    · rename_i j b r'
      simp only [Bool.and_eq_true, Nat.beq_eq, bTake_eq] at h
      obtain ⟨⟨rfl, hb⟩, hr⟩ := h
      have hrow : (ub k a).map byteV = (ub k b).map byteV := by rw [← ub_mod k a, ← ub_mod k b, hb]
      have key : ∀ (q : Nat) (l : List Value) (r : Segs CV), VRs ρ (row (.bytes k q r)) l → ∃ l2, l = ((ub k q).map fun x : Nat => Value.int .u8 (x : Int)) ++ l2 ∧ VRs ρ (row r) l2 := by
        intro q l r hl
        have hrw : row (.bytes k q r) = (ub k q).map byteV ++ row r := rfl
        rw [hrw] at hl
        refine ⟨l.drop k, ?_, ?_⟩
        · have h3 := hl.take k
          rw [List.take_left' (by simp)] at h3
          have h4 : row (.bytes k q .nil) = (ub k q).map byteV := by simp [row, Segs.cells]
          rw [← h4] at h3
          have := bytes_vals h3
          rw [List.map_map] at this
          conv => lhs; rw [← List.take_append_drop k l]
          rw [this]; rfl
        · have h3 := hl.drop k
          rw [List.drop_left' (by simp)] at h3
          exact h3
      obtain ⟨l2, rfl, a2⟩ := key a l r h1
      obtain ⟨m2, rfl, b2⟩ := key b m r' h2
      obtain ⟨rfl, s2⟩ := ih r' l2 m2 hr a2 b2
      have hub : ub k a = ub k b := by rw [← ub_mod k a, ← ub_mod k b, hb]
      rw [hub]
      refine ⟨rfl, ?_⟩
      rw [List.zip_append rfl, List.all_append, s2, Bool.and_true]
      rw [List.all_eq_true]
      intro x hx
      have hx' := List.of_mem_zip hx
      have : x.1 = x.2 := by
        obtain ⟨i, hi, rfl⟩ := List.getElem_of_mem hx
        simp
      obtain ⟨p, q⟩ := x
      simp only at this hx'
      subst this
      obtain ⟨y, _, rfl⟩ := List.mem_map.1 hx'.1
      simp [Instr.sameBits]
    · cases h
theorem sameC_sound {x y : CV} {x' y' : Value} (h : sameC x y = true) (hx : VR ρ x x') (hy : VR ρ y y') : x' = y' ∧ Instr.sameBits 10000 x' y' = true := by
  unfold sameC at h
  split at h
  · rename_i s t
    cases hx with | agg _ l hl hh => cases hy with | agg _ m hm hh2 =>
      obtain ⟨rfl, h2⟩ := sameS_sound (ρ := ρ) 9999 s t l m h ⟨hl, hh⟩ ⟨hm, hh2⟩
      refine ⟨rfl, ?_⟩
      show Instr.sameBits (9999 + 1) _ _ = true
      simp only [Instr.sameBits, beq_self_eq_true, Bool.true_and]
      exact h2
  · exact scalC_sound h hx hy 10000
end
end Sim
