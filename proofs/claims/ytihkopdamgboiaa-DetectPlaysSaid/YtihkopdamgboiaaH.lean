/- DetectNames. -/
import Derived.Test.YtihkopdamgboiaaG
namespace Go.Proofs.Ytihkopdamgboiaa
open Go.RowKit Go.Shelf
set_option linter.unusedVariables false
attribute [local go_sem] Oper.semAt_some

theorem silent_is (r : Bool) (b h : Nat) (pat now store : Int) (zs : List Int) (hr : silentB pat now zs store = r) (hp1 : 1 ≤ pat) (hp2 : pat ≤ 100000) (hn0 : 0 ≤ now) (hn1 : now ≤ 9223372036854775807)
    (w : World) (hb : b < w.heap.size) (hh : h < w.heap.size) (hw : IsWatch w b h pat zs) :
    Calls Try.prog 12 #[.pointer (some ⟨b, 0, none⟩), .int .i64 store, .int .i64 now] w fun e w' => e = .returned (.bool r) ∧ Below w.heap.size w w' :=
  (silent_any b h pat now store zs hp1 hp2 hn0 hn1 w hb hh hw).mono fun e w' ⟨h1, h2⟩ => ⟨by rw [← hr]; exact h1, h2⟩
theorem again_to {W : World} {b h : Nat} {pat : Int} {zs : List Int} (hw : IsWatch W b h pat zs) (now : Int) (h0 : 0 ≤ now) {B : Nat} (hh : B ≤ h) :
    Calls Try.prog 11 #[.pointer (some ⟨b, 0, none⟩), .int .i64 now] W fun e w' => e = .returned (.tuple #[]) ∧ IsWatch w' b h pat (List.replicate zs.length now) ∧ Below B W w' :=
  (again_yes hw now h0).mono fun e w' ⟨h1, h2⟩ => ⟨h1, by subst h2; have := setN_watch hw now _ (Nat.le_refl _); rw [setL_all] at this; exact this, by subst h2; exact setN_below now (Below.refl _ _) hh _⟩

set_option maxRecDepth 100000 in
set_option maxHeartbeats 1000000 in
theorem names_any (W : World) : Calls Try.prog 4 #[] W fun e w' => e = .returned (.bool true) ∧ Below W.heap.size W w' := by
  go_enter Try.func4, Try.ntmps4
  go_wp2_with fail
  refine (works_any W).mono ?_
  rintro e w1 ⟨rfl, hB1⟩
  have hz1 := hB1.size
  have hB1' := Lib.hid hB1
  clear hB1
  go_wp2_with fail
  refine (new_no _ _ _ _ (by decide)).mono ?_
  rintro e w' ⟨rfl, rfl⟩
  go_wp2_with fail
  refine (new_no _ _ _ _ (by decide)).mono ?_
  rintro e w' ⟨rfl, rfl⟩
  go_wp2_with fail
  refine (new_no _ _ _ _ (by decide)).mono ?_
  rintro e w' ⟨rfl, rfl⟩
  go_wp2_with fail
  refine (new_no _ _ _ _ (by decide)).mono ?_
  rintro e w' ⟨rfl, rfl⟩
  go_wp2_with fail
  refine (new_no _ _ _ _ (by decide)).mono ?_
  rintro e w' ⟨rfl, rfl⟩
  go_wp2_with fail
  refine (new_yes _ 5 100000 0 (by omega) (by omega) (by omega) (by omega) (by omega)).mono ?_
  rintro e w2 ⟨b, h, rfl, hw, hb, hh, hB2⟩
  have hz2 := hB2.size
  have hw2 := Lib.hid hw
  have hB2' := Lib.hid hB2
  clear hw hB2
  go_wp2_with fail
  refine (again_nil _).mono ?_
  rintro e w' ⟨rfl, rfl⟩
  go_wp2_with fail
  refine (heard_nil _ _ _).mono ?_
  rintro e w' ⟨rfl, rfl⟩
  go_wp2_with fail
  refine (silent_no _ _ _ (.inl rfl) _).mono ?_
  rintro e w3 ⟨rfl, hB3⟩
  have hz3 := hB3.size
  have hs2 := hw2.out.sizes (by simp)
  have hw3 := Lib.hid (hw2.out.below hs2.1 hs2.2 hB3)
  have hB3' := Lib.hid hB3
  clear hB3
  go_wp2_with fail
  refine (says_nil _ _ _ _ (by omega) _).mono ?_
  rintro e w4 ⟨rfl, hB4⟩
  have hz4 := hB4.size
  have hw4 := Lib.hid (hw3.out.below (by omega) (by omega) hB4)
  have hB4' := Lib.hid hB4
  clear hB4
  go_wp2_with fail
  refine (heard_no hw4.out _ _ (by decide)).mono ?_
  rintro e w' ⟨rfl, rfl⟩
  go_wp2_with fail
  refine (heard_no hw4.out _ _ (by decide)).mono ?_
  rintro e w' ⟨rfl, rfl⟩
  go_wp2_with fail
  refine (heard_yes hw4.out 0 5 (by simp) (by simp)).mono ?_
  rintro e w' ⟨rfl, rfl⟩
  have hw5a := hw4.out.set 0 (by simp) 5
  have hB5a := (Below.refl W.heap.size w4).setCell (p := ⟨h, 0, none⟩) (by simp; omega) (.int .i64 5)
  generalize w4.setCell ⟨h, 0, none⟩ (.int .i64 5) = w5 at hw5a hB5a ⊢
  have hw5 := Lib.hid hw5a
  have hB5' := Lib.hid hB5a
  have hs5 := hw5a.sizes (by simp)
  have hz5 := hB5a.size
  clear hw5a hB5a
  go_wp2_with fail
  refine (heard_no hw5.out _ _ (by decide)).mono ?_
  rintro e w' ⟨rfl, rfl⟩
  go_wp2_with fail
  refine (silent_is false b h _ _ _ _ (by decide) (by omega) (by omega) (by omega) (by omega) _ hs5.1 hs5.2 hw5.out).mono ?_
  rintro e w6 ⟨rfl, hB6⟩
  have hz6 := hB6.size
  have hw6 := Lib.hid (hw5.out.below (by omega) (by omega) hB6)
  have hB6' := Lib.hid hB6
  clear hB6
  go_wp2_with fail
  refine (silent_no _ _ _ (.inr (by omega)) _).mono ?_
  rintro e w7 ⟨rfl, hB7⟩
  have hz7 := hB7.size
  have hB7' := Lib.hid hB7
  clear hB7
  go_wp2_with fail
  refine (new_yes _ 3 5 0 (by omega) (by omega) (by omega) (by omega) (by omega)).mono ?_
  rintro e w8 ⟨b8, h8, rfl, hw8, hb8, hh8, hB8⟩
  have hz8 := hB8.size
  have hw8' := Lib.hid hw8
  have hB8' := Lib.hid hB8
  clear hw8 hB8
  go_wp2_with fail
  refine (again_to hw8'.out 9 (by omega) (B := W.heap.size) (by omega)).mono ?_
  rintro e w9 ⟨rfl, hw9, hB9⟩
  have hz9 := hB9.size
  have hs9 := hw9.sizes (by simp)
  have hw9' := Lib.hid hw9
  have hB9' := Lib.hid hB9
  clear hw9 hB9
  go_wp2_with fail
  refine (again_no _ (by omega)).mono ?_
  rintro e w' ⟨rfl, rfl⟩
  go_wp2_with fail
  refine (silent_is false b8 h8 _ _ _ _ (by decide) (by omega) (by omega) (by omega) (by omega) _ hs9.1 hs9.2 hw9'.out).mono ?_
  rintro e w10 ⟨rfl, hB10⟩
  have hz10 := hB10.size
  have hw10 := Lib.hid (hw9'.out.below (by omega) (by omega) hB10)
  have hB10' := Lib.hid hB10
  clear hB10
  go_wp2_with fail
  refine (silent_is true b8 h8 _ _ _ _ (by decide) (by omega) (by omega) (by omega) (by omega) _ (by omega) (by omega) hw10.out).mono ?_
  rintro e w11 ⟨rfl, hB11⟩
  have hB11' := Lib.hid hB11
  clear hB11
  go_wp2
  go_ret
  exact ⟨rfl, hB1'.out.trans ((hB2'.out.mono (by omega)).trans ((hB3'.out.mono (by omega)).trans ((hB4'.out.mono (by omega)).trans (hB5'.out.trans ((hB6'.out.mono (by omega)).trans ((hB7'.out.mono (by omega)).trans ((hB8'.out.mono (by omega)).trans (hB9'.out.trans ((hB10'.out.mono (by omega)).trans (hB11'.out.mono (by omega)))))))))))⟩
end Go.Proofs.Ytihkopdamgboiaa
