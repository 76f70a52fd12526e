/- works: the example. -/
import Derived.Test.YtihkopdamgboiaaE
namespace Go.Proofs.Ytihkopdamgboiaa
open Go.RowKit Go.Shelf
set_option linter.unusedVariables false
attribute [local go_sem] Oper.semAt_some

/-- The slice value v holds the commands r, in a block from n₀ on that may be written; or it is nil and there are none. -/
def CmdSl (n₀ : Nat) (W : World) (v : Value) (r : List (Int × Int)) : Prop :=
  (r = [] ∧ v = .slice none 0 0) ∨ (r ≠ [] ∧ ∃ g cap, v = .slice (some ⟨g, 0, none⟩) r.length cap ∧ n₀ ≤ g ∧ g < W.heap.size ∧ (∀ j u, (ccells r)[j]? = some u → W.cell? ⟨g, j, none⟩ = some u) ∧ (∀ j, W.frozen? ⟨g, j, none⟩ = false))
theorem cmdSl_of {n₀ : Nat} {W : World} {v : Value} {r : List (Int × Int)} (h : W.ownsRow n₀ 36 4 v r.length (ccells r)) (hn : v = .slice none 0 0 ↔ r = []) : CmdSl n₀ W v r := by
  by_cases hr : r = []
  · exact .inl ⟨hr, hn.2 hr⟩
  · right
    refine ⟨hr, ?_⟩
    rcases h.2 with ⟨rfl, _⟩ | ⟨g, cap, cur, rfl, hb, hh, hle, _, hsz, htk⟩
    · exact absurd (hn.1 rfl) hr
    · refine ⟨g, cap, rfl, hb, (Array.getElem?_eq_some_iff.1 hh).1, fun j u hj => ?_, fun j => ?_⟩
      · rw [← htk, List.getElem?_take] at hj
        split at hj
        · simp only [World.cell?, hh]; simpa using hj
        · cases hj
      · simp [World.frozen?, hh]
theorem CmdSl.nil {n₀ : Nat} {W : World} {v : Value} (h : CmdSl n₀ W v []) : v = .slice none 0 0 := by
  rcases h with ⟨_, h⟩ | ⟨h, _⟩
  · exact h
  · exact absurd rfl h
theorem CmdSl.some {n₀ : Nat} {W : World} {v : Value} {c : Int × Int} {r : List (Int × Int)} (h : CmdSl n₀ W v (c :: r)) :
    ∃ g cap, v = .slice (.some ⟨g, 0, none⟩) (r.length + 1) cap ∧ n₀ ≤ g ∧ g < W.heap.size ∧ (∀ j u, (ccells (c :: r))[j]? = .some u → W.cell? ⟨g, j, none⟩ = .some u) ∧ (∀ j, W.frozen? ⟨g, j, none⟩ = false) := by
  rcases h with ⟨h, _⟩ | ⟨_, h⟩
  · cases h
  · exact h
theorem says_is (r : List (Int × Int)) (b h : Nat) (pat now : Int) (zs ds : List Int) (a : Option Addr) (len cap : Nat) (hr : says pat now zs ds = r) (hds : ds.length ≤ 9223372036854775807) (hp1 : 1 ≤ pat) (hp2 : pat ≤ 100000) (hn0 : 0 ≤ now) (hn1 : now ≤ 9223372036854775807)
    (w : World) (hb : b < w.heap.size) (hh : h < w.heap.size) (hw : IsWatch w b h pat zs) (hsv : Ints w.heap.size w (.slice a len cap) ds) :
    Calls Try.prog 10 #[.pointer (some ⟨b, 0, none⟩), .slice a len cap, .int .i64 now] w fun e w' => ∃ v, e = .returned v ∧ CmdSl w.heap.size w' v r ∧ Below w.heap.size w w' :=
  (says_any b h pat now zs ds a len cap hds hp1 hp2 hn0 hn1 w hb hh hw hsv).mono fun e w' ⟨v, h1, h2, h3, h4⟩ => ⟨v, h1, by subst hr; exact cmdSl_of h2 h3, h4⟩

theorem IsWatch.sizes {W : World} {b h : Nat} {pat : Int} {zs : List Int} (hw : IsWatch W b h pat zs) (h0 : 0 < zs.length) : b < W.heap.size ∧ h < W.heap.size := by
  have key : ∀ {g o : Nat} {v : Value}, W.cell? ⟨g, o, none⟩ = some v → g < W.heap.size := fun {g o v} e => by
    obtain ⟨x, hx, _⟩ := cells_of_cell e
    exact (Array.getElem?_eq_some_iff.1 hx).1
  exact ⟨key hw.pat, key (hw.at' 0 h0)⟩

set_option maxRecDepth 100000 in
set_option maxHeartbeats 1000000 in
theorem works_any (W : World) : Calls Try.prog 7 #[] W fun e w' => e = .returned (.bool true) ∧ Below W.heap.size W w' := by
  go_enter Try.func7, Try.ntmps7
  go_wp2_with fail
  refine (new_yes W 3 5 0 (by omega) (by omega) (by omega) (by omega) (by omega)).mono ?_
  rintro e w1 ⟨b, h, rfl, hw, hb, hh, hB⟩
  have hw0 := Lib.hid hw
  have hB0 := Lib.hid hB
  clear hw hB
  go_wp2_with fail
  refine (heard_yes hw0.out 1 3 (by simp) (by simp)).mono ?_
  rintro e w2 ⟨rfl, rfl⟩
  have hw1 := hw0.out.set 1 (by simp) 3
  have hB1 := hB0.out.setCell (p := ⟨h, 1, none⟩) hh (.int .i64 3)
  generalize w1.setCell ⟨h, 1, none⟩ (.int .i64 3) = w2 at hw1 hB1 ⊢
  have hs := hw1.sizes (by simp)
  have hw1' := Lib.hid hw1
  have hB1' := Lib.hid hB1
  clear hw0 hB0 hw1 hB1
  go_wp2_with fail
  refine (says_is [] b h 5 4 _ [] _ _ _ (by decide +kernel) (by simp) (by omega) (by omega) (by omega) (by omega) _ hs.1 hs.2 hw1'.out (.inl ⟨rfl, rfl⟩)).mono ?_
  rintro e w3 ⟨v3, rfl, hc3, hB3⟩
  obtain rfl := hc3.nil
  have hw3' := Lib.hid (hw1'.out.below hs.1 hs.2 hB3)
  clear hc3
  have hs3 := hw3'.out.sizes (by simp)
  go_wp2_with fail
  refine (says_is [(5, 1), (5, 3)] b h 5 5 _ [] _ _ _ (by decide +kernel) (by simp) (by omega) (by omega) (by omega) (by omega) _ hs3.1 hs3.2 hw3'.out (.inl ⟨rfl, rfl⟩)).mono ?_
  rintro e w4 ⟨v4, rfl, hc4, hB4⟩
  obtain ⟨g4, cap4, rfl, k1, k2, k3, k4⟩ := hc4.some
  have hw4' := Lib.hid (hw3'.out.below hs3.1 hs3.2 hB4)
  have hs4 := hw4'.out.sizes (by simp)
  have k3' := Lib.hid k3
  clear hc4 k3 k4
  go_wp2_with fail
  have hB5a : Below w4.heap.size w4 (w4.alloc (.cells #[.int .i64 1, .int .i64 2, .int .i64 3] 3)) := (Below.refl _ _).alloc (Nat.le_refl _) _
  refine (says_is [(6, 2)] b h 5 7 _ [1, 2, 3] _ _ _ (by decide +kernel) (by simp) (by omega) (by omega) (by omega) (by omega) _ (by simp; omega) (by simp; omega) (hw4'.out.below hs4.1 hs4.2 hB5a) (.inr (.inl ⟨w4.heap.size, 0, 3, rfl, by simp, fun j hj => ?_⟩))).mono ?_
  · rw [World.cell?_alloc_at _ _ _ _ rfl]
    match j, hj with
    | 0, _ => rfl
    | 1, _ => rfl
    | 2, _ => rfl
  rintro e w5 ⟨v5, rfl, hc5, hB5⟩
  obtain ⟨g5, cap5, rfl, l1, l2, l3, l4⟩ := hc5.some
  have hB5' : Below w4.heap.size w4 w5 := hB5a.trans (hB5.mono (by simp))
  have hw5' := Lib.hid (hw4'.out.below hs4.1 hs4.2 hB5')
  have hs5 := hw5'.out.sizes (by simp)
  have a0 := (hB5'.cell (p := ⟨g4, 0, none⟩) k2).trans (k3'.out 0 _ rfl)
  have a1 := (hB5'.cell (p := ⟨g4, 1, none⟩) k2).trans (k3'.out 1 _ rfl)
  have a2 := (hB5'.cell (p := ⟨g4, 2, none⟩) k2).trans (k3'.out 2 _ rfl)
  have a3 := (hB5'.cell (p := ⟨g4, 3, none⟩) k2).trans (k3'.out 3 _ rfl)
  have a4 := (hB5'.cell (p := ⟨g4, 4, none⟩) k2).trans (k3'.out 4 _ rfl)
  have a5 := (hB5'.cell (p := ⟨g4, 5, none⟩) k2).trans (k3'.out 5 _ rfl)
  have a6 := (hB5'.cell (p := ⟨g4, 6, none⟩) k2).trans (k3'.out 6 _ rfl)
  have a7 := (hB5'.cell (p := ⟨g4, 7, none⟩) k2).trans (k3'.out 7 _ rfl)
  have b0 := l3 0 _ rfl
  have b1 := l3 1 _ rfl
  have b2 := l3 2 _ rfl
  have b3 := l3 3 _ rfl
  have hB5'' := Lib.hid hB5'
  clear hc5 l3 l4 hB5a hB5 hB5'
  go_wp2_with fail
  clear a0 a1 a2 a3 a4 a5 a6 a7 b0 b1 b2 b3
  have hB6a : Below w5.heap.size w5 (w5.alloc (.cells #[.int .i64 1, .int .i64 3] 3)) := (Below.refl _ _).alloc (Nat.le_refl _) _
  refine (says_is [] b h 5 7 _ [1, 3] _ _ _ (by decide +kernel) (by simp) (by omega) (by omega) (by omega) (by omega) _ (by simp; omega) (by simp; omega) (hw5'.out.below hs5.1 hs5.2 hB6a) (.inr (.inl ⟨w5.heap.size, 0, 2, rfl, by simp, fun j hj => ?_⟩))).mono ?_
  · rw [World.cell?_alloc_at _ _ _ _ rfl]
    match j, hj with
    | 0, _ => rfl
    | 1, _ => rfl
  rintro e w6 ⟨v6, rfl, hc6, hB6⟩
  obtain rfl := hc6.nil
  have hB6' : Below w5.heap.size w5 w6 := hB6a.trans (hB6.mono (by simp))
  have hw6' := Lib.hid (hw5'.out.below hs5.1 hs5.2 hB6')
  have hs6 := hw6'.out.sizes (by simp)
  have hB6'' := Lib.hid hB6'
  clear hc6 hB6a hB6 hB6'
  go_wp2_with fail
  have hB7a : Below w6.heap.size w6 (w6.alloc (.cells #[.int .i64 1, .int .i64 3] 3)) := (Below.refl _ _).alloc (Nat.le_refl _) _
  refine (says_is [(5, 2)] b h 5 8 _ [1, 3] _ _ _ (by decide +kernel) (by simp) (by omega) (by omega) (by omega) (by omega) _ (by simp; omega) (by simp; omega) (hw6'.out.below hs6.1 hs6.2 hB7a) (.inr (.inl ⟨w6.heap.size, 0, 2, rfl, by simp, fun j hj => ?_⟩))).mono ?_
  · rw [World.cell?_alloc_at _ _ _ _ rfl]
    match j, hj with
    | 0, _ => rfl
    | 1, _ => rfl
  rintro e w7 ⟨v7, rfl, hc7, hB7⟩
  obtain ⟨g7, cap7, rfl, l1, l2, l3, l4⟩ := hc7.some
  have hB7' := Lib.hid (hB7a.trans (hB7.mono (by simp)))
  clear hc7 l3 l4 hB7a hB7
  go_wp2
  go_ret
  have hz1 := hB1'.out.size
  have hz3 := hB3.size
  have hz4 := hB4.size
  have hz5 := hB5''.out.size
  have hz6 := hB6''.out.size
  exact ⟨rfl, hB1'.out.trans ((hB3.mono hz1).trans ((hB4.mono (by omega)).trans ((hB5''.out.mono (by omega)).trans ((hB6''.out.mono (by omega)).trans (hB7'.out.mono (by omega))))))⟩
end Go.Proofs.Ytihkopdamgboiaa
