/- Slices of numbers that the call itself made. -/
import Derived.Laws.AppendOwnNone
import Derived.Test.YtihkopdamgboiaaE
namespace Go.Proofs.Ytihkopdamgboiaa
open Go.RowKit Go.Shelf
set_option linter.unusedVariables false

theorem Try.info3 : (Try.prog.info? 3).map (fun i => (i.zero, i.size, i.bytes)) = some (some (.int .i64 0), 1, 8) := by kernel_rfl
/-- The slice value v owns the numbers xs, in a block from B on. -/
def OwnInts (B : Nat) (W : World) (v : Value) (xs : List Int) : Prop := W.ownsRow B 3 1 v xs.length (xs.map (Value.int .i64))
theorem own_form {B : Nat} {W : World} {v : Value} {xs : List Int} (h : OwnInts B W v xs) :
    ∃ a cap, v = .slice a xs.length cap ∧ (∀ j (hj : j < xs.length), ∃ g, a = some ⟨g, 0, none⟩ ∧ B ≤ g ∧ g < W.heap.size ∧ W.cell? ⟨g, j, none⟩ = some (.int .i64 xs[j])) := by
  rcases h.2 with ⟨rfl, h0⟩ | ⟨g, cap, cur, rfl, hb, hh, hle, _, hsz, htk⟩
  · exact ⟨none, 0, by rw [h0], fun j hj => by omega⟩
  · refine ⟨_, cap, rfl, fun j hj => ⟨g, rfl, hb, (Array.getElem?_eq_some_iff.1 hh).1, ?_⟩⟩
    have h1 : (xs.map (Value.int .i64))[j]? = some (.int .i64 xs[j]) := by simp [hj]
    rw [← htk, List.getElem?_take] at h1
    split at h1
    · simp only [World.cell?, hh]; simpa using h1
    · cases h1
theorem own_ints {B B' : Nat} {W : World} {a : Option Addr} {len cap : Nat} {xs : List Int} (h : OwnInts B W (.slice a len cap) xs) (hB : W.heap.size ≤ B') : Ints B' W (.slice a len cap) xs := by
  rcases h.2 with ⟨e, h0⟩ | ⟨g, cap', cur, e, hb, hh, hle, _, hsz, htk⟩
  · exact .inl ⟨e, by simpa using h0⟩
  · refine .inr (.inl ⟨g, 0, cap', e, by have := (Array.getElem?_eq_some_iff.1 hh).1; omega, fun j hj => ?_⟩)
    have h1 : (xs.map (Value.int .i64))[j]? = some (.int .i64 (xs[j]?.getD 0)) := by simp [hj]
    rw [← htk, List.getElem?_take] at h1
    split at h1
    · simp only [World.cell?, hh]; simpa using h1
    · cases h1
theorem own_mono {B B' : Nat} {W : World} {v : Value} {xs : List Int} (h : OwnInts B W v xs) (hB : B' ≤ B) : OwnInts B' W v xs := by
  refine ⟨h.1, ?_⟩
  rcases h.2 with h0 | ⟨g, cap, cur, e, hb, r⟩
  · exact .inl h0
  · exact .inr ⟨g, cap, cur, e, by omega, r⟩
theorem own_below {B B' : Nat} {W W' : World} {v : Value} {xs : List Int} (h : OwnInts B W v xs) (hW : Below B' W W') (hs : W.heap.size ≤ B') : OwnInts B W' v xs := by
  refine ⟨h.1, ?_⟩
  rcases h.2 with h0 | ⟨g, cap, cur, e, hb, hh, r⟩
  · exact .inl h0
  · exact .inr ⟨g, cap, cur, e, hb, (hW.block g (by have := (Array.getElem?_eq_some_iff.1 hh).1; omega)).trans hh, r⟩
theorem own_empty {B : Nat} {W : World} (hB : B ≤ W.heap.size) : OwnInts B (W.alloc (.cells #[] 3)) (.slice (some ⟨W.heap.size, 0, none⟩) 0 0) [] :=
  ⟨rfl, .inr ⟨W.heap.size, 0, #[], rfl, hB, World.alloc_heap_new W _, Nat.le_refl _, by unfold maxLen; omega, rfl, rfl⟩⟩
theorem own_nil {B : Nat} {W : World} : OwnInts B W (.slice none 0 0) [] := ⟨rfl, .inl ⟨rfl, rfl⟩⟩
/-- An append of a slice of numbers, nil or not, to one of the call's own. -/
theorem wpList_append_ints {w : World} {ops : Array Oper} {rest : List Oper} {o : Oper} {a : Act} {Q : Exit → Act → World → Prop} (hgd : o.guard = none) (s x : Operand)
    (ho : o.op = .call { callee := .builtin .append, args := #[s, x], argTypes := #[23, 23] }) {B n₀ : Nat} {v : Value} {xs : List Int} (hs : a.eval s = v) (hown : OwnInts B w v xs)
    {p : Option Addr} {len cap : Nat} {ds : List Int} (hx : a.eval x = .slice p len cap) (hI : Ints n₀ w (.slice p len cap) ds) (hl : xs.length + ds.length ≤ 1000000) (hb : B ≤ w.heap.size)
    (h : ∀ v' w', OwnInts B w' v' (xs ++ ds) → w.grownBy w' v.ownBlock → wpList Try.prog ops Q rest (a.put o.dst v') w') : wpList Try.prog ops Q (o :: rest) a w := by
  obtain ⟨i0, hi, hz0, hz1, hz2⟩ := info_parts Try.info3
  rcases hI with ⟨e, rfl⟩ | ⟨b, off, cap', e, hbn, hc⟩ | ⟨ad, cap', e, rfl⟩
  · rw [e] at hx
    refine wpList_append_own_none hgd s x 23 ho B 3 i0 1 Try.underlying23 hi v _ _ hs hown hx (h v w (by simpa using hown) (World.grownBy.refl _ _))
  · rw [e] at hx
    refine wpList_append_own w hgd s x 23 ho B 3 i0 (.int .i64 0) 1 8 Try.underlying23 hi hz0 hz1 hz2 rfl (by decide) v _ _ hs hown ⟨b, off, none⟩ ds.length cap' (ds.map (Value.int .i64)) hx (by simp) ?_ ?_ (by unfold maxLen; omega) (by omega) hb ?_
    · intro j u hj
      have hj' : j < ds.length := by
        rcases Nat.lt_or_ge j ds.length with h | h
        · exact h
        · simp [List.getElem?_eq_none h] at hj
      have e2 : ((⟨b, off, none⟩ : Addr).add j) = ⟨b, off + j, none⟩ := by unfold Addr.add; split <;> simp_all
      rw [e2, hc j hj']
      simpa [hj'] using hj
    · intro u hu
      obtain ⟨z, _, rfl⟩ := List.mem_map.1 hu
      rfl
    · intro v' w' h1 h2 _
      exact h v' w' (by unfold OwnInts; simpa using h1) h2
  · rw [e] at hx
    refine wpList_append_own w hgd s x 23 ho B 3 i0 (.int .i64 0) 1 8 Try.underlying23 hi hz0 hz1 hz2 rfl (by decide) v _ _ hs hown ad 0 cap' [] hx (by simp) (fun j u hj => by simp at hj) (fun u hu => by simp at hu) (by unfold maxLen; omega) (by omega) hb ?_
    intro v' w' h1 h2 _
    exact h v' w' (by unfold OwnInts; simpa using h1) h2


theorem below_of_own {B : Nat} {w w1 w' : World} {v : Value} {xs : List Int} (hb : Below B w w1) (h : OwnInts B w1 v xs) (hg : w1.grownBy w' v.ownBlock) (hB : B ≤ w1.heap.size) : Below B w w' :=
  hb.grown hg hB (fun k e => by
    rcases h.2 with ⟨rfl, _⟩ | ⟨g, cap, cur, rfl, h1, _⟩
    · simp [Value.ownBlock] at e
    · simp [Value.ownBlock] at e; omega)
/-- An append of one number, which lies in a new block, to a slice of the call's own. -/
theorem wpList_append_one {w : World} {ops : Array Oper} {rest : List Oper} {o : Oper} {a : Act} {Q : Exit → Act → World → Prop} (hgd : o.guard = none) (s x : Operand)
    (ho : o.op = .call { callee := .builtin .append, args := #[s, x], argTypes := #[23, 23] }) {B : Nat} {v : Value} {xs : List Int} (hs : a.eval s = v) (hown : OwnInts B w v xs) (y : Int)
    (hx : a.eval x = .slice (some ⟨w.heap.size, 0, none⟩) 1 1) (hl : xs.length + 1 ≤ 1000000) (hb : B ≤ w.heap.size)
    (h : ∀ v' w', OwnInts B w' v' (xs ++ [y]) → Below B w w' → wpList Try.prog ops Q rest (a.put o.dst v') w') : wpList Try.prog ops Q (o :: rest) a (w.alloc (.cells #[.int .i64 y] 3)) := by
  have hown' : OwnInts B (w.alloc (.cells #[.int .i64 y] 3)) v xs := own_below hown ((Below.refl w.heap.size w).alloc (Nat.le_refl _) _) (Nat.le_refl _)
  refine wpList_append_ints (n₀ := w.heap.size + 1) hgd s x ho hs hown' (p := some ⟨w.heap.size, 0, none⟩) (len := 1) (cap := 1) (ds := [y]) hx (.inr (.inl ⟨w.heap.size, 0, 1, rfl, by omega, fun j hj => ?_⟩)) hl (by simp; omega) ?_
  · have : j = 0 := by simpa using hj
    subst this
    rw [World.cell?_alloc_at _ _ _ _ rfl]; rfl
  · intro v' w' h1 h2
    exact h v' w' h1 (below_of_own ((Below.refl B w).alloc hb _) hown' h2 (by simp; omega))
end Go.Proofs.Ytihkopdamgboiaa
