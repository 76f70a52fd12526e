import Derived.Test.YtpinmfjiiapgfaaGreatDoorSound
import Derived.Test.YtpinmfjiiapgfaaGreatDoorFacts
import Derived.Test.YtpinmfjiiapgfaaGreatDoorRows
import Derived.Test.YtpinmfjiiapgfaaGreatDoorTie
import Derived.Test.YtpinmfjiiapgfaaGreatDoorCards
import Derived.WalkKit
import Derived.ProofKit
import Derived.Lay
import Derived.LaidOnce
import Derived.SevenTiedAt
/- THE STATEMENT KeepNames: it returns true, from whatever world in which the listed variables (utf8.first, utf8.acceptRanges) lie as the text of the program lays them. -/
namespace Go.Proofs.YtpinmfjiiapgfaaGreatDoor.keepNames
open Go Go.Proofs Go.RowKit Go.ChangeShapes Go.WideShapes Go.ChangeAt
open Sim (P0)
theorem walk (w : World) : Calls Tryz.prog 3 #[] w fun e w' => e = .returned (.bool true) ∧ ∀ may, w.keptBut w' may := by
  refine (Sim.says_calls (P := P0) Sim.P0_mixed (Sim.runX_sound Sim.P0_mixed Sim.I8_sound 100) Sim.keep_is w (fun r v h => by simp [Sim.globs] at h)).mono ?_
  rintro e w' ⟨v', rfl, hv, h1, h2, h3, h4⟩
  cases hv
  refine ⟨rfl, fun may => ⟨h1, h2, fun i hi => ?_⟩⟩
  rw [h4 i hi]
  split <;> simp_all

theorem own : ownKnob Tryz.prog.godebug = none := by kernel_rfl
set_option maxRecDepth 100000 in
theorem lifted (os : Os) (started : os.Started) (H : Type) (enc : TypeId × Value → H) :
    ReturnsInHanded {} Tryz.checked os 3 .any (fun w args => (Rows.keepNamesSpec.pre enc Tryz.prog Tryz.f3 [] false w args ∧ laidMetH Tryz.prog Rows.keepNamesRow.laid w) ∧ sizedMet enc Tryz.prog Tryz.f3 (OpenSpec.ofChange Rows.keepNamesSpec) false w args)
      (Rows.keepNamesSpec.post enc Tryz.prog Tryz.f3 false true false false) := by
  refine returnsInHanded_of_change_and (C := Tryz.checked) (X := fun w _ => laidMetH Tryz.prog Rows.keepNamesRow.laid w) (fun _ _ _ hh h => h.of_heap hh) own started (by kernel_rfl) Tryz.func3
    (ChangeSpec.witness_shaped (enc := enc) (C := Tryz.checked) (os := os) (X := fun w _ => laidMetH Tryz.prog Rows.keepNamesRow.laid w) false (World.laidAll Tryz.prog os Rows.keepNamesRow.laid) #[] 8 (World.laidAll_os _ _ _)
      (World.shaped_of_ZipB (by kernel_rfl) (by kernel_rfl)) (by kernel_rfl) (by kernel_rfl) (by kernel_rfl)
      (by rw [MakeChecks.laidMetH_plain _ _ _ (by kernel_rfl)]; exact laidMet_laidAll _ (by kernel_rfl) (by kernel_rfl))) ?_
  intro W base args ds gs before hval0 hW _ _ hL _
  have hval : ∀ (j : Nat) t v, Tryz.f3.params[j]? = some t → args[j]? = some v → Value.okWide Tryz.prog W .any base t v := hval0
  have hW' := hW
  obtain ⟨p, q, hA0, hV, rfl, _, _⟩ := hW
  have hA : DataW.TrodAll enc Tryz.prog W 0 (fun _ => true) true Tryz.f3.params.toList args.toList ds p := hA0
  rw [Tryz.params3] at hA hval
  obtain ⟨rfl, rfl, rfl⟩ := trodAll_none hA
  obtain ⟨rfl, rfl⟩ := trodVars_none hV
  simp only [List.append_nil] at hW'
  refine (walk W).mono fun e W' ⟨he, hb⟩ => ?_
  subst he
  exact ⟨_, rfl, _, _, _, [], [], [], hW', trodAll_mk1 (shut_bool Tryz.underlying4 _), trodAll_mk0, rfl, hb _, fun h => by cases h⟩

theorem c1 : Tryz.pinned.checked.prog.funcNamed Rows.keepNamesRow.func = some 3 := by kernel_rfl
theorem c2 : Rows.keepNamesRow.wfByText (OpenSpec.ofChange Rows.keepNamesSpec) = true := by kernel_rfl
theorem c3 : Tryz.pinned.checked.prog.mainIs = some (true, "18266d1b01bc4dedcd37aea74bc9b7e7b3d6c81d60584171903e729c7e8dc0b9".toList) := by kernel_rfl
theorem c4 : false = Tryz.pinned.checked.prog.looks [] := by kernel_rfl
theorem c5 : false = Rows.keepNamesRow.goesBy Tryz.pinned.checked.prog := by kernel_rfl
theorem holds : Rows.KeepNamesSaid :=
  OpenClaim.holds_of_wide 3 Tryz.f3 rfl rfl rfl rfl rfl rfl rfl ⟨rfl, rfl, rfl, rfl, rfl⟩ rfl rfl rfl rfl rfl c1 Tryz.func3 closed
    (of_decide_eq_true (by kernel_rfl)) (by unfold Func.isWrapper; first | (rw [if_pos (by decide +kernel)]; kernel_rfl) | (rw [if_neg (by decide +kernel)]; exact ⟨rfl, rfl⟩))
    (fun os started H enc _ => lifted os started H enc)

/-- ████ THE STATEMENT ████ -/
theorem proved : Rows.KeepNamesCardSaid :=
  Claim7.holds_tied_plain_at .later [] [.data, .pinned] true (true, "18266d1b01bc4dedcd37aea74bc9b7e7b3d6c81d60584171903e729c7e8dc0b9") false holds (fun _ h => by cases h) c2 (fun _ h => by cases h) keepNames_row_tie rfl ⟨rfl, rfl⟩ c3 rfl
    (fun f fn hf hfn => by
      obtain rfl : f = 3 := Option.some.inj (c1.symm.trans hf) |>.symm
      obtain rfl : fn = Tryz.f3 := (Option.some.inj (Tryz.func3.symm.trans hfn)).symm
      exact ⟨c4, fun j t ht => by
        rw [Tryz.params3] at ht
        simp at ht⟩)
    c5
#print axioms proved
end Go.Proofs.YtpinmfjiiapgfaaGreatDoor.keepNames
