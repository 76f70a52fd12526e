/- How a slice of steps reads. -/
import Derived.Deep.Slices
import Derived.Deep.Fields
import Derived.ChangeSame
import Derived.ProofKit
import Derived.OpenShut
import Derived.Test.YtihkopdamgboiaaE
namespace Go.Proofs.Ytihkopdamgboiaa
open Go.RowKit Go.Shelf Go.ChangeShapes Go.WideShapes Go.Deep
set_option linter.unusedVariables false

section
variable {H : Type} {enc : TypeId × Value → H} {P : Program} {w : World} {base : Nat} {spare : Nat → Bool} {held : Bool}
theorem open_slice_fields {t e : TypeId} {fs : Array Field} {fuel : Nat} {cs : List Value} {x : DataW H × List MemPlace} (ht : P.underlying t = some (.slice e)) (he : P.underlying e = some (.struct fs))
    (hone : oneCellFields P fs = true) (hC : P.cellsOf e = fs.size) (h : DataW.trod enc P w base spare held fuel t cs = some x) :
    (cs = [.slice none 0 0] ∧ x = (.nil, [])) ∨
    ∃ (a : Addr) (len cap m : Nat) (D : Nat → DataW H) (Pl : Nat → List MemPlace), cs = [.slice (some a) len cap] ∧ base ≤ a.block ∧ len ≤ cap ∧ cap ≤ maxLen ∧ m = (if spare a.block then cap else len) ∧
      x = (.slice ((List.range len).map D) ((List.range (m - len)).map fun j => D (len + j)), MemPlace.row a (m * fs.size) ++ (List.range m).flatMap Pl) ∧
      ∀ i, i < m → ∃ (ys : List (DataW H × List MemPlace)) (n : Nat), D i = .agg (ys.map (·.1)) ∧ Pl i = ys.flatMap (·.2) ∧ ys.length = fs.size ∧
        ∀ (j : Nat) (f : Field), fs[j]? = some f → ∃ (v : Value) (y : DataW H × List MemPlace), w.cell? (a.add (i * fs.size + j)) = some v ∧ ys[j]? = some y ∧ DataW.trod enc P w base spare held n f.type [v] = some y := by
  rcases open_slice ht h with h0 | ⟨a, len, cap, m, n, D, Pl, hcs, hb, hl, hm, hmm, hx, hi⟩
  · exact .inl h0
  · refine .inr ⟨a, len, cap, m, D, Pl, hcs, hb, hl, hm, hmm, by rw [hC] at hx; exact hx, fun i him => ?_⟩
    obtain ⟨cs', hc, ht'⟩ := hi i him
    rw [hC] at hc
    obtain ⟨ys, n', hn', hy, hlen, hyl, hf⟩ := DataW.trod_struct he ht'
    obtain ⟨_, hcl, hat⟩ := World.cells?_some hc
    simp only [Prod.mk.injEq] at hy
    refine ⟨ys, n', hy.1, hy.2, hyl, fun j f hj => ?_⟩
    obtain ⟨ho, hk⟩ := hone_of hone j f hj
    have hjl : j < fs.size := (Array.getElem?_eq_some_iff.1 hj).1
    have hcell := hat j hjl
    have hv : cs'[j]? = some (cs'[j]'(by omega)) := List.getElem?_eq_getElem (by omega)
    have h1 := hf j f hj
    rw [ho, hk] at h1
    have hone' : (cs'.drop j).take 1 = [cs'[j]'(by omega)] := by
      rw [List.drop_eq_getElem_cons (by omega)]
      rfl
    rw [hone'] at h1
    have hys : ys[j]? = some (ys[j]'(by omega)) := List.getElem?_eq_getElem (by omega)
    refine ⟨_, _, ?_, hys, h1.trans hys⟩
    rw [← Go.Deep.add_add, hcell, hv]
end

theorem wf_bounds {n : Int} (h : (Lit.int .i64 n).wf = true) : -9223372036854775808 ≤ n ∧ n ≤ 9223372036854775807 := by
  simp [Lit.wf, IntKind.min, IntKind.max, IntKind.signed, IntKind.bits] at h; omega

/-- What the walk is told of one step. -/
structure StepAt (W : World) (blk o : Nat) (kd st nw : Int) (pd : Option Addr) (ld cd : Nat) (ds : List Int) : Prop where
  kind : W.cell? ⟨blk, o, none⟩ = some (.int .i64 kd)
  store : W.cell? ⟨blk, o + 1, none⟩ = some (.int .i64 st)
  now : W.cell? ⟨blk, o + 2, none⟩ = some (.int .i64 nw)
  downs : W.cell? ⟨blk, o + 3, none⟩ = some (.slice pd ld cd)
  ints : Ints W.heap.size W (.slice pd ld cd) ds
  len : ds.length = ld
  few : ld ≤ 9223372036854775807
  top : nw ≤ 9223372036854775807
  low : -9223372036854775808 ≤ nw

theorem ints_read {H : Type} {enc : TypeId × Value → H} {W : World} {base : Nat} {spare : Nat → Bool} {held : Bool} {fuel : Nat} {v : Value} {x : DataW H × List MemPlace}
    (hf : DataW.trod enc Try.prog W base spare held fuel 23 [v] = some x) :
    ∃ p len cap ds, v = .slice p len cap ∧ Ints W.heap.size W (.slice p len cap) ds ∧ ds.length = len ∧ len ≤ 9223372036854775807 := by
  rcases open_ints Try.underlying23 Try.underlying3 (by kernel_rfl) hf with ⟨hcs, _⟩ | ⟨x, l, c, zs, hcs, _, hl, hm, hz, _, hcell, hwz⟩
  · simp at hcs; subst hcs
    exact ⟨none, 0, 0, [], rfl, .inl ⟨rfl, rfl⟩, rfl, by omega⟩
  · simp at hcs; subst hcs
    unfold maxLen at hm
    refine ⟨some x, l, c, zs.take l, rfl, ?_, by rw [List.length_take]; split at hz <;> omega, by omega⟩
    by_cases h0 : l = 0
    · subst h0; exact .inr (.inr ⟨x, c, rfl, by simp⟩)
    · obtain ⟨b, off, rfl, hc⟩ := ints_at hcell (by split at hz <;> omega)
      have hlz : l ≤ zs.length := by split at hz <;> omega
      refine .inr (.inl ⟨b, off, c, by rw [List.length_take, Nat.min_eq_left hlz], ?_, fun j hj => ?_⟩)
      · obtain ⟨o, ho, _⟩ := cells_of_cell (hc 0 (by omega))
        exact (Array.getElem?_eq_some_iff.1 ho).1
      · rw [List.length_take] at hj
        rw [hc j (by omega)]
        simp [show j < l by omega]

theorem steps_read {H : Type} {enc : TypeId × Value → H} {W : World} {fuel : Nat} {p : Option Addr} {len cap : Nat} {x : DataW H × List MemPlace}
    (hf : DataW.trod enc Try.prog W 0 (fun _ => true) true fuel 22 [.slice p len cap] = some x) :
    len ≤ 9223372036854775807 ∧ ∀ k, k < len → ∃ blk off kd st nw pd ld cd ds, p = some ⟨blk, off, none⟩ ∧ blk < W.heap.size ∧ StepAt W blk (off + k * 4) kd st nw pd ld cd ds := by
  rcases open_slice_fields Try.underlying22 Try.underlying32 (by kernel_rfl) (by kernel_rfl) hf with ⟨hcs, _⟩ | ⟨a, l, c, m, D, Pl, hcs, _, hl, hm, hme, _, hi⟩
  · simp at hcs
    obtain ⟨rfl, rfl, rfl⟩ := hcs
    exact ⟨by omega, fun k hk => by omega⟩
  · simp at hcs
    obtain ⟨rfl, rfl, rfl⟩ := hcs
    unfold maxLen at hm
    refine ⟨by omega, fun k hk => ?_⟩
    have hsp0 : a.spot = none := by
      obtain ⟨ys, n, _, _, _, hff⟩ := hi 0 (by rw [hme]; simp; omega)
      obtain ⟨v0, y0, c0, _, t0⟩ := hff 0 _ rfl
      simpa [Addr.add] using World.cell?_spot c0
    obtain ⟨ys, n, _, _, _, hff⟩ := hi k (by rw [hme]; simp; omega)
    obtain ⟨v0, y0, c0, _, t0⟩ := hff 0 _ rfl
    obtain ⟨v1, y1, c1, _, t1⟩ := hff 1 _ rfl
    obtain ⟨v2, y2, c2, _, t2⟩ := hff 2 _ rfl
    obtain ⟨v3, y3, c3, _, t3⟩ := hff 3 _ rfl
    obtain ⟨kd, e0, _, _⟩ := DataW.trod_int Try.underlying3 t0
    obtain ⟨st, e1, _, _⟩ := DataW.trod_int Try.underlying3 t1
    obtain ⟨nw, e2, _, w2⟩ := DataW.trod_int Try.underlying3 t2
    simp only [List.cons.injEq, and_true] at e0 e1 e2
    subst e0 e1 e2
    obtain ⟨pd, ld, cd, ds, rfl, i1, i2, i3⟩ := ints_read t3
    obtain ⟨b, off, spot⟩ := a
    dsimp only at hsp0
    subst hsp0
    have e : ∀ i, ((⟨b, off, none⟩ : Addr).add i) = ⟨b, off + i, none⟩ := fun i => by unfold Addr.add; split <;> simp_all
    simp only [e] at c0 c1 c2 c3
    have hb := wf_bounds w2
    have hbl : b < W.heap.size := by
      obtain ⟨o, ho, _⟩ := cells_of_cell c0
      exact (Array.getElem?_eq_some_iff.1 ho).1
    exact ⟨b, off, kd, st, nw, pd, ld, cd, ds, rfl, hbl, ⟨c0, c1, c2, c3, i1, i2, i3, hb.2, hb.1⟩⟩
end Go.Proofs.Ytihkopdamgboiaa
