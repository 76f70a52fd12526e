import Derived.Test.YtfojoloiahhphaaGreatDoorSimNum
/- Sim, part 5: loads and stores. -/
namespace Sim
open Go

theorem addr_add (g o i : Nat) : (⟨g, o, none⟩ : Addr).add i = ⟨g, o + i, none⟩ := by unfold Addr.add; split <;> simp_all

/-- Cells of a row are read off the world. -/
theorem run_loadCells_row (P : Program) (w : World) (r o n : Nat) (c : Array Value) (t : TypeId) (fz : Nat × Nat) (h : w.heap[r]? = some (.cells c t fz)) (hn : o + n ≤ c.size) :
    (loadCells ⟨r, o, none⟩ n).run P w = .ok ((c.toList.drop o).take n).toArray w := by
  have hl : ((c.toList.drop o).take n).length = n := by simp; omega
  have := run_loadCells_list (P := P) w ⟨r, o, none⟩ ((c.toList.drop o).take n) (fun j v hj => by
    rw [addr_add]
    rw [List.getElem?_take] at hj
    split at hj
    · rw [List.getElem?_drop] at hj
      simp only [World.cell?, h]
      simpa using hj
    · cases hj)
  rw [hl] at this
  exact this

theorem run_load_row (P : Program) (w : World) (r o : Nat) (c : Array Value) (t : TypeId) (fz : Nat × Nat) (v : Value) (h : w.heap[r]? = some (.cells c t fz)) (hv : c.toList[o]? = some v) :
    (load ⟨r, o, none⟩).run P w = .ok v w := by
  have : w.cell? ⟨r, o, none⟩ = some v := by simp only [World.cell?, h]; simpa using hv
  rw [run_load, this]

theorem run_storeCells_row (P : Program) (g o : Nat) (t : TypeId) (lo hi : Nat) : ∀ (vs : List Value) (i : Nat) (cur : Array Value) (w : World), w.heap[g]? = some (.cells cur t (lo, hi)) →
    (∀ k, k < cur.size → ¬ (lo ≤ k ∧ k < hi)) → o + i + vs.length ≤ cur.size → (∀ v ∈ vs, v.oneCell' = true) →
    (storeCells ⟨g, o, none⟩ vs i).run P w = .ok () (w.setRow g (cur.toList.take (o + i) ++ vs ++ cur.toList.drop (o + i + vs.length)).toArray)
  | [], i, cur, w, hg, _, _, _ => by
    simp only [storeCells, List.append_nil, List.length_nil, Nat.add_zero, List.take_append_drop, Array.toArray_toList]
    rw [setRow_self w g cur t (lo, hi) hg]
    rfl
  | v :: rest, i, cur, w, hg, hfz, hl, h1 => by
    have hi' : o + i < cur.size := by simp at hl; omega
    have hcell : w.cell? ⟨g, o + i, none⟩ = some cur[o + i] := by simp [World.cell?, hg, hi']
    have hfro : w.frozen? ⟨g, o + i, none⟩ = false := by
      have := hfz (o + i) hi'
      simp only [World.frozen?, hg, Bool.and_eq_false_iff, decide_eq_false_iff_not]
      omega
    have hst : (store ((⟨g, o, none⟩ : Addr).add i) v).run P w = .ok () (w.setRow g (cur.setIfInBounds (o + i) v)) := by
      rw [addr_add, run_store P w _ v _ (h1 v (by simp)), hcell]
      simp [hfro, setCell_eq_setRow w g (o + i) cur t (lo, hi) v hg]
    have ih := run_storeCells_row P g o t lo hi rest (i + 1) (cur.setIfInBounds (o + i) v) (w.setRow g (cur.setIfInBounds (o + i) v)) (setRow_heap w g cur _ t _ hg)
      (by simpa using hfz) (by simp at hl ⊢; omega) (fun x hx => h1 x (by simp [hx]))
    simp only [storeCells, Sem.run_bind, hst, Result.andThen_ok, ih, setRow_setRow]
    congr 3
    have e := list_seg_step cur.toList (o + i) v rest (by simp at hl ⊢; omega)
    simpa [Array.toList_setIfInBounds, Nat.add_assoc] using e

theorem setRow_other (w : World) (g : Nat) (c : Array Value) (k : Nat) (h : k ≠ g) : (w.setRow g c).heap[k]? = w.heap[k]? := by
  unfold World.setRow
  simp only [Array.getElem?_modify]
  rw [if_neg (fun e => h e.symm)]
theorem setRow_size (w : World) (g : Nat) (c : Array Value) : (w.setRow g c).heap.size = w.heap.size := by
  unfold World.setRow; simp

/-- What the clean memory says of a row. -/
theorem WR.row {ρ : Ren} {st : St} {w : World} (h : WR ρ st w) {b : Bp} {s : Segs CV} {t : TypeId} {g : Bool} {r sz : Nat} (h1 : st.mem.get b = some (.cells s t g)) (h2 : ρ b = some (r, sz)) :
    ∃ c lo hi, w.heap[r]? = some (.cells c t (lo, hi)) ∧ c.size = sz ∧ s.size ≤ sz ∧ VRs ρ (row s) (c.toList.take s.size) ∧ (∀ k, k < c.size → ¬ (lo ≤ k ∧ k < hi)) := by
  obtain ⟨o, e2, e3⟩ := h.at' b _ r sz h1 h2
  cases e3 with
  | cells _ _ _ c lo hi hlen hc hf hg => exact ⟨c, lo, hi, e2, rfl, hlen, hc, hf⟩
theorem WR.rowG {ρ : Ren} {st : St} {w : World} (h : WR ρ st w) {b : Bp} {s : Segs CV} {t : TypeId} {g : Bool} {r sz : Nat} (h1 : st.mem.get b = some (.cells s t g)) (h2 : ρ b = some (r, sz)) {c : Array Value} {lo hi : Nat} (h3 : w.heap[r]? = some (.cells c t (lo, hi))) : g = false → ∀ k, ¬ (lo ≤ k ∧ k < hi) := by
  obtain ⟨o, e2, e3⟩ := h.at' b _ r sz h1 h2
  rw [h3] at e2; cases e2
  cases e3 with
  | cells _ _ _ c lo hi hlen hc hf hg => exact hg

/-- A value and its cells. -/
theorem VR.segs {ρ : Ren} {v : CV} {v' : Value} (h : VR ρ v v') : VRs ρ (Sim.row v.segs) v'.cells.toList := by
  by_cases ha : ∃ s, v = .agg s
  · obtain ⟨s, rfl⟩ := ha
    cases h with
    | agg s l hl h => exact ⟨by simpa [CV.segs, Value.cells] using hl, fun i v v' a b => h i v v' a (by simpa [Value.cells] using b)⟩
  · rw [row_segs (fun s e => ha ⟨s, e⟩)]
    have : v'.cells = #[v'] := by cases h <;> first | rfl | exact absurd ⟨_, rfl⟩ ha
    rw [this]
    exact VRs.cons h (VRs.nil ρ)

theorem row_length (s : Segs CV) : (row s).length = s.size := Segs.cells_length byteV s

/-- 'agg' of a row. -/
theorem VR.agg' {ρ : Ren} {s : Segs CV} {l : List Value} (h : VRs ρ (row s) l) : VR ρ (.agg s) (.agg l.toArray) := .agg s l h.len h.at'
theorem VR.tuple' {ρ : Ren} {s : Segs CV} {l : List Value} (h : VRs ρ (row s) l) : VR ρ (.tuple s) (.tuple l.toArray) := .tuple s l h.len h.at'

theorem VRs.get {ρ : Ren} {l : List CV} {l' : List Value} (h : VRs ρ l l') {i : Nat} {v : CV} (hv : l[i]? = some v) : ∃ v', l'[i]? = some v' ∧ VR ρ v v' := by
  have hi : i < l.length := by
    rcases Nat.lt_or_ge i l.length with h | h
    · exact h
    · simp [List.getElem?_eq_none h] at hv
  have : i < l'.length := h.len ▸ hi
  exact ⟨l'[i], by simp, h.at' i v _ hv (by simp)⟩

/-- Are all cells values of one cell? -/
noncomputable def oneCell (v : CV) : Bool := match v with | .agg _ | .tuple _ | .undef => false | _ => true
noncomputable def oneCells (s : Segs CV) : Bool := Segs.rec true (fun v _ ih => Bool.rec false ih (oneCell v)) (fun _ _ _ ih => ih) s
theorem oneCell_real {ρ : Ren} {v : CV} {v' : Value} (h : VR ρ v v') (ho : oneCell v = true) : v'.oneCell' = true := by
  cases h <;> first | rfl | (simp [oneCell] at ho)
theorem oneCells_row (s : Segs CV) (h : oneCells s = true) : ∀ v ∈ row s, oneCell v = true := by
  induction s with
  | nil => intro v hv; simp [row, Segs.cells] at hv
  | one v r ih =>
    have e : oneCells (.one v r) = Bool.rec false (oneCells r) (oneCell v) := rfl
    rw [e] at h
    intro x hx
    simp only [row, Segs.cells, List.mem_cons] at hx
    cases ho : oneCell v with
    | false => rw [ho] at h; cases h
    | true =>
      rw [ho] at h
      rcases hx with rfl | hx
      · exact ho
      · exact ih h x hx
  | bytes n val r ih =>
    have e : oneCells (.bytes n val r) = oneCells r := rfl
    rw [e] at h
    intro x hx
    simp only [row, Segs.cells, List.mem_append, List.mem_map] at hx
    rcases hx with ⟨a, _, rfl⟩ | hx
    · rfl
    · exact ih h x hx

/-- A store of cells into a row. -/
theorem After.write {P : Program} {ρ : Ren} {st : St} {w : World} (h : WR ρ st w) {b : Bp} {s t s' : Segs CV} {ty : TypeId} {g : Bool} {off r sz : Nat} {vs : List Value}
    (h1 : st.mem.get b = some (.cells s ty g)) (h2 : ρ b = some (r, sz)) (hw : s.write off t = some s') (hv : VRs ρ (row t) vs) (ho : oneCells t = true) :
    ∃ w', (storeCells ⟨r, off, none⟩ vs).run P w = .ok () w' ∧ After ρ st w ρ (st.set b (.cells s' ty g)) w' := by
  obtain ⟨c, lo, hi, e1, e2, e3, e4, e5⟩ := h.row h1 h2
  obtain ⟨w1, w2⟩ := Segs.write_some hw
  have hlen : vs.length = t.size := by rw [← hv.len, row_length]
  have hone : ∀ v ∈ vs, v.oneCell' = true := fun v hm => by
    obtain ⟨i, hi', rfl⟩ := List.getElem_of_mem hm
    have : i < (row t).length := hv.len ▸ hi'
    exact oneCell_real (hv.at' i (row t)[i] _ (by simp) (by simp)) (oneCells_row t ho _ (List.getElem_mem _))
  have hrun := run_storeCells_row P r off ty lo hi vs 0 c w e1 e5 (by omega) hone
  refine ⟨_, hrun, ?_⟩
  have hs' : s'.size = s.size := by
    have := congrArg List.length (w2 byteV)
    rw [row_length] at this
    simp only [List.length_append, List.length_take, List.length_drop, row_length] at this
    omega
  have hnew := setRow_heap w r c (c.toList.take (off + 0) ++ vs ++ c.toList.drop (off + 0 + vs.length)).toArray ty (lo, hi) e1
  have hcs : (c.toList.take (off + 0) ++ vs ++ c.toList.drop (off + 0 + vs.length)).toArray.size = sz := by
    simp only [List.size_toArray, List.length_append, List.length_take, List.length_drop, Array.length_toList]; omega
  refine After.set h h1 h2 hnew ?_ (fun k hk => setRow_other w r _ k hk) (setRow_size w r _) rfl rfl
  have hb := BR.cells (ρ := ρ) s' ty g (c.toList.take (off + 0) ++ vs ++ c.toList.drop (off + 0 + vs.length)).toArray lo hi (by rw [hcs, hs']; omega) ?_ (by rw [hcs]; rw [e2] at e5; exact e5) (h.rowG h1 h2 e1)
  · rw [hcs] at hb; exact hb
  · have : row s' = (row s).take off ++ (row t ++ (row s).drop (off + t.size)) := w2 byteV
    rw [this, hs']
    have e : (c.toList.take (off + 0) ++ vs ++ c.toList.drop (off + 0 + vs.length)).toArray.toList.take s.size = (c.toList.take s.size).take off ++ (vs ++ (c.toList.take s.size).drop (off + t.size)) := by
      simp only [Nat.add_zero, List.append_assoc, hlen]
      rw [List.take_append, List.take_append, List.take_take, List.take_take, Nat.min_comm off s.size, List.take_of_length_le (l := vs) (by simp; omega)]
      congr 2
      rw [List.length_take, hlen, List.take_drop, Array.length_toList]
      congr 1
      congr 1
      omega
    rw [e]
    exact (e4.take off).app (hv.app (e4.drop _))
end Sim
