/- What the walk of DetectPlays is told of each call. -/
import Derived.Test.YtihkopdamgboiaaR
import Derived.Test.YtihkopdamgboiaaN
namespace Go.Proofs.Ytihkopdamgboiaa
open Go.RowKit Go.Shelf
set_option linter.unusedVariables false

/-- All blocks but h lie as they lay. -/
structure Touch (h : Nat) (W w' : World) : Prop where
  size : w'.heap.size = W.heap.size
  block : ∀ g, g ≠ h → w'.heap[g]? = W.heap[g]?
theorem Touch.refl (h : Nat) (W : World) : Touch h W W := ⟨rfl, fun _ _ => rfl⟩
theorem Touch.of_heap {h : Nat} {W w' : World} (e : w'.heap = W.heap) : Touch h W w' := ⟨by rw [e], fun _ _ => by rw [e]⟩
theorem Touch.trans {h : Nat} {A B C : World} (x : Touch h A B) (y : Touch h B C) : Touch h A C := ⟨y.size.trans x.size, fun g hg => (y.block g hg).trans (x.block g hg)⟩
theorem Touch.setCell (h k : Nat) (W : World) (v : Value) : Touch h W (W.setCell ⟨h, k, none⟩ v) := ⟨by simp, fun g hg => heap_setCell_other _ _ _ _ hg⟩
theorem Touch.cell {h g o : Nat} {W w' : World} (t : Touch h W w') (hg : g ≠ h) : w'.cell? ⟨g, o, none⟩ = W.cell? ⟨g, o, none⟩ := by simp only [World.cell?, t.block g hg]
theorem Touch.frozen {h g o : Nat} {W w' : World} (t : Touch h W w') (hg : g ≠ h) : w'.frozen? ⟨g, o, none⟩ = W.frozen? ⟨g, o, none⟩ := by simp only [World.frozen?, t.block g hg]
theorem Touch.setN (h : Nat) (W : World) (now : Int) (k : Nat) : Touch h W (setN W h now k) := by
  induction k with
  | zero => exact Touch.refl _ _
  | succ k ih => exact ih.trans (Touch.setCell h k _ _)
theorem IsWatch.touch {W w' : World} {b h h0 : Nat} {pat : Int} {zs : List Int} (hw : IsWatch W b h pat zs) (t : Touch h0 W w') (n1 : b ≠ h0) (n2 : h ≠ h0) : IsWatch w' b h pat zs :=
  ⟨(t.cell n1).trans hw.pat, (t.cell n1).trans hw.sl, fun j hj => (t.cell n2).trans (hw.at' j hj), fun j hj => (t.frozen n2).trans (hw.free j hj), hw.ne, hw.few⟩
theorem IsRef.touch {W w' : World} {b h c h0 : Nat} {pat : Int} {zs : List Int} (hw : IsRef W b h c pat zs) (t : Touch h0 W w') (n1 : b ≠ h0) (n2 : h ≠ h0) : IsRef w' b h c pat zs :=
  ⟨(t.cell n1).trans hw.pat, (t.cell n1).trans hw.sl, fun j hj => (t.cell n2).trans (hw.at' j hj), fun j hj => (t.frozen n2).trans (hw.free j hj), hw.ne, hw.few, hw.one⟩

/-- The numbers behind a hearing. -/
def heardL (zs : List Int) (store now : Int) : List Int := if hearOk zs store now = true then zs.set (store - 1).toNat now else zs
theorem heardL_len (zs : List Int) (store now : Int) : (heardL zs store now).length = zs.length := by unfold heardL; split <;> simp
/-- The error's number. -/
def heardE (b : Bool) : Int := bif b then 0 else 1
theorem heard_gen {W : World} {b h B : Nat} {pat : Int} {zs : List Int} (hw : IsWatch W b h pat zs) (store now : Int) (hh : B ≤ h) :
    Calls Try.prog 9 #[.pointer (some ⟨b, 0, none⟩), .int .i64 store, .int .i64 now] W fun e w' => e = .returned (.int .i64 (heardE (hearOk zs store now))) ∧ IsWatch w' b h pat (heardL zs store now) ∧ Below B W w' ∧ Touch h W w' := by
  by_cases hk : hearOk zs store now = true
  · have hk' := hk
    simp only [hearOk, decide_eq_true_eq] at hk'
    obtain ⟨k, rfl⟩ : ∃ k : Nat, store = (k : Int) + 1 := ⟨(store - 1).toNat, by omega⟩
    have e1 : ((k : Int) + 1 - 1).toNat = k := by omega
    have hkl : k < zs.length := by omega
    refine (heard_yes hw k now hkl (by have := hk'.2.2; rw [e1] at this; simpa [hkl] using this)).mono ?_
    rintro e w' ⟨rfl, rfl⟩
    exact ⟨by rw [hk]; rfl, by unfold heardL; rw [if_pos hk, e1]; exact hw.set k hkl now, (Below.refl _ _).setCell (p := ⟨h, k, none⟩) hh _, Touch.setCell _ _ _ _⟩
  · refine (heard_no hw store now (by simpa using hk)).mono ?_
    rintro e w' ⟨rfl, rfl⟩
    exact ⟨by simp at hk; rw [hk]; rfl, by unfold heardL; rw [if_neg hk]; exact hw, Below.refl _ _, Touch.refl _ _⟩
theorem hear_gen {W : World} {b h c B : Nat} {pat : Int} {zs : List Int} (hw : IsRef W b h c pat zs) (store now : Int) (hh : B ≤ h) :
    Calls Try.prog 14 #[.pointer (some ⟨b, 0, none⟩), .int .i64 store, .int .i64 now] W fun e w' => e = .returned (.bool (hearOk zs store now)) ∧ IsRef w' b h c pat (heardL zs store now) ∧ Below B W w' ∧ Touch h W w' := by
  by_cases hk : hearOk zs store now = true
  · have hk' := hk
    simp only [hearOk, decide_eq_true_eq] at hk'
    obtain ⟨k, rfl⟩ : ∃ k : Nat, store = (k : Int) + 1 := ⟨(store - 1).toNat, by omega⟩
    have e1 : ((k : Int) + 1 - 1).toNat = k := by omega
    have hkl : k < zs.length := by omega
    refine (hear_yes hw k now hkl (by have := hk'.2.2; rw [e1] at this; simpa [hkl] using this)).mono ?_
    rintro e w' ⟨rfl, rfl⟩
    exact ⟨by rw [hk], by unfold heardL; rw [if_pos hk, e1]; exact hw.set k hkl now, (Below.refl _ _).setCell (p := ⟨h, k, none⟩) hh _, Touch.setCell _ _ _ _⟩
  · refine (hear_no hw store now (by simpa using hk)).mono ?_
    rintro e w' ⟨rfl, rfl⟩
    exact ⟨by simp at hk; rw [hk], by unfold heardL; rw [if_neg hk]; exact hw, Below.refl _ _, Touch.refl _ _⟩
/-- The numbers behind 'begun anew'. -/
def againL (zs : List Int) (now : Int) : List Int := if now < 0 then zs else List.replicate zs.length now
theorem againL_len (zs : List Int) (now : Int) : (againL zs now).length = zs.length := by unfold againL; split <;> simp
theorem again_gen {W : World} {b h B : Nat} {pat : Int} {zs : List Int} (hw : IsWatch W b h pat zs) (now : Int) (hh : B ≤ h) :
    Calls Try.prog 11 #[.pointer (some ⟨b, 0, none⟩), .int .i64 now] W fun e w' => e = .returned (.tuple #[]) ∧ IsWatch w' b h pat (againL zs now) ∧ Below B W w' ∧ Touch h W w' := by
  by_cases hn : now < 0
  · refine (again_no now hn).mono ?_
    rintro e w' ⟨rfl, rfl⟩
    exact ⟨rfl, by unfold againL; rw [if_pos hn]; exact hw, Below.refl _ _, Touch.refl _ _⟩
  · refine (again_yes hw now (by omega)).mono ?_
    rintro e w' ⟨rfl, rfl⟩
    have := setN_watch hw now _ (Nat.le_refl _)
    rw [setL_all] at this
    exact ⟨rfl, by unfold againL; rw [if_neg hn]; exact this, setN_below now (Below.refl _ _) hh _, Touch.setN _ _ _ _⟩
theorem ragain_gen {W : World} {b h c B : Nat} {pat : Int} {zs : List Int} (hw : IsRef W b h c pat zs) (now : Int) (hh : B ≤ h) :
    Calls Try.prog 15 #[.pointer (some ⟨b, 0, none⟩), .int .i64 now] W fun e w' => e = .returned (.tuple #[]) ∧ IsRef w' b h c pat (againL zs now) ∧ Below B W w' ∧ Touch h W w' := by
  by_cases hn : now < 0
  · refine (ragain_no hw now hn).mono ?_
    rintro e w' ⟨rfl, rfl⟩
    exact ⟨rfl, by unfold againL; rw [if_pos hn]; exact hw, Below.refl _ _, Touch.refl _ _⟩
  · refine (ragain_yes hw now (by omega)).mono ?_
    rintro e w' ⟨rfl, rfl⟩
    have := setN_ref hw now _ (Nat.le_refl _)
    rw [setL_all] at this
    exact ⟨rfl, by unfold againL; rw [if_neg hn]; exact this, setN_below now (Below.refl _ _) hh _, Touch.setN _ _ _ _⟩
theorem silent_gen (b h : Nat) (pat now store : Int) (zs : List Int) (hp1 : 1 ≤ pat) (hp2 : pat ≤ 100000) (hn1 : now ≤ 9223372036854775807)
    (w : World) (hb : b < w.heap.size) (hh : h < w.heap.size) (hw : IsWatch w b h pat zs) :
    Calls Try.prog 12 #[.pointer (some ⟨b, 0, none⟩), .int .i64 store, .int .i64 now] w fun e w' => e = .returned (.bool (silentA pat now zs store)) ∧ Below w.heap.size w w' := by
  by_cases hn : now < 0
  · refine (silent_no _ store now (.inr hn) w).mono ?_
    rintro e w' ⟨rfl, hB⟩
    exact ⟨by have : silentA pat now zs store = false := by simp [silentA]; omega
              rw [this], hB⟩
  · exact silent_is _ b h pat now store zs (by have : decide (0 ≤ now) = true := by simp; omega
                                               simp [silentA, this]) hp1 hp2 (by omega) hn1 w hb hh hw
theorem cmdSl_own {B : Nat} {W : World} {v : Value} {r : List (Int × Int)} (h : OwnCmds B W v r) (hn : v = .slice none 0 0 ↔ r = []) : CmdSl B W v r := cmdSl_of h hn
theorem rsays_gen {W : World} {b h c : Nat} {pat : Int} {zs : List Int} (hw : IsRef W b h c pat zs) (now : Int) (ds : List Int) (a : Option Addr) (len cap : Nat) (hlen : len ≤ 9223372036854775807) (hp1 : 1 ≤ pat) (hp2 : pat ≤ 100000) (hn1 : now ≤ 9223372036854775807)
    (hsv : Ints W.heap.size W (.slice a len cap) ds) :
    Calls Try.prog 18 #[.pointer (some ⟨b, 0, none⟩), .slice a len cap, .int .i64 now] W fun e w' => ∃ v, e = .returned v ∧ CmdSl W.heap.size w' v (saysA pat now zs ds) ∧ Below W.heap.size W w' := by
  by_cases hn : now < 0
  · refine (rsays_neg _ _ _ _ _ hn W).mono ?_
    rintro e w' ⟨rfl, hB⟩
    exact ⟨_, rfl, .inl ⟨by simp [saysA, hn], rfl⟩, hB⟩
  · refine (rsays_in hw now ds a len cap hlen hp1 hp2 (by omega) hn1 hsv).mono ?_
    rintro e w' ⟨v, rfl, h1, h2, h3⟩
    exact ⟨v, rfl, by simp only [saysA, hn, if_false]; exact cmdSl_own h1 h2, h3⟩
end Go.Proofs.Ytihkopdamgboiaa
