import Derived.Test.YtfojoloiahhphaaGreatDoorSimInst
import Derived.Test.YtfojoloiahhphaaGreatDoorTold
import Derived.Test.YtfojoloiahhphaaGreatDoorSnT
import Derived.Test.YtfojoloiahhphaaGreatDoorSn
import Derived.Test.YtfojoloiahhphaaGreatDoorOwT
import Derived.Test.YtfojoloiahhphaaGreatDoorRows
import Derived.Test.YtfojoloiahhphaaGreatDoorTie
import Derived.Test.YtfojoloiahhphaaGreatDoorCards
import Derived.WalkKit
import Derived.ProofKit
import Derived.Lay
import Derived.LaidOnce
import Derived.LaidHandle
import Derived.SevenTiedAt
import Derived.JoinedOf
import Derived.KernelRfl
namespace Sim
open Go Go.Proofs
theorem I3_sound : IntXSound P0 I3 := by
  intro f g h call hc args st v st' hv
  unfold I3 at h
  rw [bsel_eq] at h
  split at h
  · rename_i e
    rw [Nat.beq_eq] at e
    subst e
    exact (reloO_strong (snapI_strong P0_mixed (runX_sound P0_mixed I2_sound 100) sC0_is (funXK_strong P0_mixed hc))).out g h args st v st' hv
  exact I2_sound f g h call hc args st v st' hv
theorem I2w_sound : IntXSound P0 I2w := by
  intro f g h call hc args st v st' hv
  unfold I2w at h
  rw [bsel_eq] at h
  split at h
  · rename_i e
    rw [Nat.beq_eq] at e
    subst e
    cases h
    exact outG_sound call args st v st' hv
  rw [bsel_eq] at h
  split at h
  · rename_i e
    rw [Nat.beq_eq] at e
    subst e
    cases h
    exact allG_sound call args st v st' hv
  rw [bsel_eq] at h
  split at h
  · rename_i e
    rw [Nat.beq_eq] at e
    subst e
    cases h
    exact backG_sound call args st v st' hv
  exact I2_sound f g h call hc args st v st' hv
theorem I4w_sound : IntXSound P0 I4w := by
  intro f g h call hc args st v st' hv
  unfold I4w at h
  rw [bsel_eq] at h
  split at h
  · rename_i e
    rw [Nat.beq_eq] at e
    subst e
    exact (reloO_strong (snapI_strong P0_mixed (runX_sound P0_mixed I3_sound 100) sA0_is (funXK_strong P0_mixed hc))).out g h args st v st' hv
  exact I2w_sound f g h call hc args st v st' hv
theorem I5w_sound : IntXSound P0 I5w := by
  intro f g h call hc args st v st' hv
  have h0 := runX_sound P0_mixed I4w_sound 100
  unfold I5w at h
  rw [bsel_eq] at h
  split at h
  · rename_i e
    rw [Nat.beq_eq] at e
    subst e
    exact (snapI_strong P0_mixed h0 sW2_is (funXK_strong P0_mixed hc)).out g h args st v st' hv
  exact I4w_sound f g h call hc args st v st' hv
theorem I6w_sound : IntXSound P0 I6w := by
  intro f g h call hc args st v st' hv
  unfold I6w at h
  rw [bsel_eq] at h
  split at h
  · rename_i e
    rw [Nat.beq_eq] at e
    subst e
    cases h
    exact saysE_sound P0_mixed (runX_sound P0_mixed I5w_sound 100) awake24_is args st v st' hv
  exact I4w_sound f g h call hc args st v st' hv
end Sim

/- The row and its card: OwnerNames returns true: whatever world it is called from, in which the listed variables lie as the program's text lays them. -/
namespace Go.Proofs.YtfojoloiahhphaaGreatDoor.ownerNames
open Go Go.Proofs Go.RowKit Go.ChangeShapes Go.WideShapes Go.ChangeAt
open Sim (P0)
theorem walk (w : World) (hg : w.cell? ⟨0, 0, none⟩ = some (.iface 314 (.agg #[.pointer (some ⟨3, 90, none⟩)]))) : Calls Tryz.prog 4 #[] w fun e w' => e = .returned (.bool true) ∧ ∀ may, w.keptBut w' may := by
  refine (Sim.says_calls (P := P0) Sim.P0_mixed (Sim.runX_sound Sim.P0_mixed Sim.I6w_sound 100) Sim.owner_is w (fun r v h => by
    simp only [Sim.globs, List.mem_singleton, Prod.mk.injEq] at h
    obtain ⟨rfl, rfl⟩ := h
    exact hg)).mono ?_
  rintro e w' ⟨v', rfl, hv, h1, h2, h3, h4⟩
  cases hv
  refine ⟨rfl, fun may => ⟨h1, h2, fun i hi => ?_⟩⟩
  rw [h4 i hi]
  split <;> simp_all

theorem own : ownKnob Tryz.prog.godebug = none := by kernel_rfl
theorem et : Tryz.prog.globalNamed "errors.errorType" = some 0 := by kernel_rfl
theorem rt : (Tryz.prog.cutTypes.find? (·.1 == "internal/reflectlite.rtype")).map (·.2) = some 314 := by kernel_rfl
theorem oneRow : ((List.range 457).filter fun t => Tryz.prog.rowNamed t [101, 114, 114, 111, 114]) = [90] := by kernel_rfl
theorem size : Tryz.prog.types.size = 457 := by kernel_rfl
/-- What the condition gives: the variable's one cell. -/
theorem handle_of_laid {W : World} (h : laidMetH Tryz.prog Rows.ownerNamesRow.laid W) : W.cell? ⟨0, 0, none⟩ = some (.iface 314 (.agg #[.pointer (some ⟨3, 90, none⟩)])) := by
  have h' : laidMet Tryz.prog _ W ∧ handlesMet Tryz.prog [("errors.errorType", Rows.laid_errors_errorType)] W := h
  obtain ⟨name, u, ty, e1, e2, e3, e4, e5⟩ := h'.2 _ (List.mem_singleton.2 rfl)
  have en : name = [101, 114, 114, 111, 114] := (Option.some.inj e1).symm
  subst en
  obtain rfl := Option.some.inj (rt.symm.trans e2)
  have hm : ty ∈ (List.range 457).filter fun t => Tryz.prog.rowNamed t [101, 114, 114, 111, 114] := List.mem_filter.2 ⟨List.mem_range.2 (by rw [← size]; exact e3), e4⟩
  rw [oneRow] at hm
  obtain rfl := List.mem_singleton.1 hm
  have hh : typeHandle Tryz.prog 90 = .pointer (some ⟨3, 90, none⟩) := by kernel_rfl
  rw [hh] at e5
  simpa using World.var?_cell et e5 0

/-- A world that meets the condition. -/
noncomputable def dataL : List (String × DataW Unit) := [("unicode/utf8.acceptRanges", Rows.laid_unicode_utf8_acceptRanges), ("unicode/utf8.first", Rows.laid_unicode_utf8_first)]
noncomputable def handleW (os : Os) : World :=
  let w0 := World.holding Tryz.prog os ⟨#[], #[], []⟩
  { w0 with heap := w0.heap.modify 0 fun
      | .cells _ t frozen => .cells #[.iface 314 (.agg #[.pointer (some ⟨3, 90, none⟩)])] t frozen
      | o => o }
noncomputable def laidWorld (os : Os) : World := (handleW os).layVars Tryz.prog dataL
theorem laidMet_from {P : Program} {w0 : World} {laid : List (String × DataW Unit)} (hf : w0.layFits P laid [] = true) (hi : w0.layIfaces P laid (w0.layVars P laid) = true) : laidMet P laid (w0.layVars P laid) := by
  have e1 : (laid.filter fun x => (laid.map (·.1)).contains x.1) = laid := List.filter_eq_self.2 fun x hx => List.contains_iff_mem.2 (List.mem_map.2 ⟨x, hx, rfl⟩)
  have e2 : (laid.filter fun x => !(laid.map (·.1)).contains x.1) = [] := List.filter_eq_nil_iff.2 fun x hx => by rw [List.contains_iff_mem.2 (List.mem_map.2 ⟨x, hx, rfl⟩)]; simp
  exact laidMet_layVars (w0 := w0) (laid.map (·.1)) [] (by rw [e1]) (by rw [e1]; exact hf) (by rw [e1]; exact hi) (by rw [e2]; exact LaidIn.none)
theorem laidData (os : Os) (args : Array Value) : laidMet Tryz.prog dataL ((laidWorld os).forCall (fun _ _ => 0) ⟨#[], args, []⟩).memory := by
  have h : laidMet Tryz.prog dataL (laidWorld os) := laidMet_from (w0 := handleW os) (by kernel_rfl) (by kernel_rfl)
  exact h.of_heap (by simp [World.memory, World.forCall, Input.heap])
theorem laidWorld_met (os : Os) (args : Array Value) : laidMetH Tryz.prog Rows.ownerNamesRow.laid ((laidWorld os).forCall (fun _ _ => 0) ⟨#[], args, []⟩).memory :=
  laidMetH_of_parts (by
    have e : (Rows.ownerNamesRow.laid.filter fun x => x.2.handleName?.isNone) = dataL := by kernel_rfl
    rw [e]
    exact laidData os args) (by kernel_rfl)

set_option maxRecDepth 100000 in
theorem lifted (os : Os) (started : os.Started) (H : Type) (enc : TypeId × Value → H) :
    ReturnsInHanded {} Tryz.checked os 4 .any (fun w args => (Rows.ownerNamesSpec.pre enc Tryz.prog Tryz.f4 [] false w args ∧ laidMetH Tryz.prog Rows.ownerNamesRow.laid w) ∧ sizedMet enc Tryz.prog Tryz.f4 (OpenSpec.ofChange Rows.ownerNamesSpec) false w args)
      (Rows.ownerNamesSpec.post enc Tryz.prog Tryz.f4 false true false false) := by
  refine returnsInHanded_of_change_and (C := Tryz.checked) (X := fun w _ => laidMetH Tryz.prog Rows.ownerNamesRow.laid w) (fun _ _ _ hh h => h.of_heap hh) own started (by kernel_rfl) Tryz.func4
    (ChangeSpec.witness_shaped (enc := enc) (C := Tryz.checked) (os := os) (X := fun w _ => laidMetH Tryz.prog Rows.ownerNamesRow.laid w) false (laidWorld os) #[] 8 (World.layVars_os _ _ _)
      (World.shaped_of_ZipB (by kernel_rfl) (by kernel_rfl)) (by kernel_rfl) (by kernel_rfl) (by kernel_rfl)
      (laidWorld_met os _)) ?_
  intro W base args ds gs before hval0 hW _ _ hL _
  have hval : ∀ (j : Nat) t v, Tryz.f4.params[j]? = some t → args[j]? = some v → Value.okWide Tryz.prog W .any base t v := hval0
  have hW' := hW
  obtain ⟨p, q, hA0, hV, rfl, _, _⟩ := hW
  have hA : DataW.TrodAll enc Tryz.prog W 0 (fun _ => true) true Tryz.f4.params.toList args.toList ds p := hA0
  rw [Tryz.params4] at hA hval
  obtain ⟨rfl, rfl, rfl⟩ := trodAll_none hA
  obtain ⟨rfl, rfl⟩ := trodVars_none hV
  simp only [List.append_nil] at hW'
  refine (walk W (handle_of_laid hL)).mono fun e W' ⟨he, hb⟩ => ?_
  subst he
  exact ⟨_, rfl, _, _, _, [], [], [], hW', trodAll_mk1 (shut_bool Tryz.underlying4 _), trodAll_mk0, rfl, hb _, fun h => by cases h⟩

end Go.Proofs.YtfojoloiahhphaaGreatDoor.ownerNames

namespace Go.Proofs.YtfojoloiahhphaaGreatDoor.ownerNames
open Go Go.Proofs
/- The row's closed facts, one by one. -/
noncomputable abbrev jP : Program := Tryz.pinned.checked.prog
noncomputable abbrev jc : OpenClaim := Rows.ownerNamesRow
noncomputable abbrev js : ChangeSpec := Rows.ownerNamesSpec
noncomputable abbrev jf : Func := Tryz.f4
theorem band {a b : Bool} (ha : a = true) (hb : b = true) : (a && b) = true := by rw [ha, hb]; rfl
theorem j0 : (jc.wf (OpenSpec.ofChange js)) = true := by kernel_rfl
theorem j1 : (laidOutB jP) = true := by kernel_rfl
theorem j2 : (mapsRowed jP) = true := by kernel_rfl
theorem j3 : (jf.params.all (jP.readableRec ·)) = true := by kernel_rfl
theorem j4 : (namedTie jP jc.named js.vars) = true := by kernel_rfl
theorem j5 : ((jc.stops == [])) = true := by kernel_rfl
theorem j6 : ((jP.stops == [])) = true := by kernel_rfl
theorem j7 : ((jc.knobs == [])) = true := by kernel_rfl
theorem j8 : ((jP.stopKnobs == [])) = true := by kernel_rfl
theorem j9 : ((jc.inPlace == jP.inPlace 4)) = true := by kernel_rfl
theorem j10 : ((jc.unfollowed == jP.unfollowed 4)) = true := by kernel_rfl
theorem j11 : ((jc.recurses == jP.recurses 4)) = true := by kernel_rfl
theorem j12 : ((jc.named == jP.varsNamed 4)) = true := by kernel_rfl
theorem j13 : ((jc.maps == (jf.params.toList ++ js.plain.varTypes jP).any (jP.mapsRec ·))) = true := by kernel_rfl
theorem j14 : ((jc.ifaces == (jf.params.toList ++ js.plain.varTypes jP).any (jP.ifacesRec ·))) = true := by kernel_rfl
theorem j15 : ((jc.mapsOut == jP.mapsAmong jf.resultTypes.toList)) = true := by kernel_rfl
theorem j16 : ((jc.loops == (jf.params.toList ++ js.plain.varTypes jP).any (jP.loopsFrom ·))) = true := by kernel_rfl
theorem j17 : ((jc.wideKeys == (jf.params.toList ++ js.plain.varTypes jP ++ jf.resultTypes.toList).any (jP.wideKeysFrom ·))) = true := by kernel_rfl
theorem j18 : (js.vars.all (jP.varReadable ·)) = true := by kernel_rfl
theorem j19 : (jf.resultTypes.all (fun t => jP.readableRec t && decide (t < jP.types.size))) = true := by kernel_rfl
theorem j20 : ((jc.ifacesOut == jf.resultTypes.toList.any (jP.ifacesRec ·))) = true := by kernel_rfl
theorem j21 : ((jc.loopsOut == jf.resultTypes.toList.any (jP.loopsFrom ·))) = true := by kernel_rfl
theorem j22 : ((jc.plainKeys == jP.plainKeys)) = true := by kernel_rfl
theorem j23 : (jc.shortTexts.isNone) = true := by kernel_rfl
theorem j24 : (jP.stopsHeard) = true := by kernel_rfl
theorem j25 : (jP.mayEnter) = true := by kernel_rfl
theorem j26 : ((jc.lifted == jP.liftsFinal)) = true := by kernel_rfl
theorem j27 : ((jP.make == some jc.make)) = true := by kernel_rfl
theorem j28 : ((jc.kinds == (if jc.domain.isEmpty then [] else jf.params.toList.map fun t => match jP.underlying t with | some (.int k) => some k | _ => none))) = true := by kernel_rfl
theorem j29 : ((jc.pinned == jc.pinnedBy)) = true := by kernel_rfl
theorem j30 : ((jc.veiled == (jf.params.toList ++ js.plain.varTypes jP ++ jf.resultTypes.toList).any (jP.veiledRec ·))) = true := by kernel_rfl
theorem j31 : (jc.veiledFits jP jf.params.toList (jf.params.toList ++ js.plain.varTypes jP ++ jf.resultTypes.toList)) = true := by kernel_rfl
set_option maxRecDepth 100000 in
theorem closed0 : (jc.wf (OpenSpec.ofChange js) && laidOutB jP && mapsRowed jP && jf.params.all (jP.readableRec ·) && namedTie jP jc.named js.vars && (jc.stops == []) && (jP.stops == []) && (jc.knobs == []) && (jP.stopKnobs == []) && (jc.inPlace == jP.inPlace 4) && (jc.unfollowed == jP.unfollowed 4) && (jc.recurses == jP.recurses 4) && (jc.named == jP.varsNamed 4) && (jc.maps == (jf.params.toList ++ js.plain.varTypes jP).any (jP.mapsRec ·)) && (jc.ifaces == (jf.params.toList ++ js.plain.varTypes jP).any (jP.ifacesRec ·)) && (jc.mapsOut == jP.mapsAmong jf.resultTypes.toList) && (jc.loops == (jf.params.toList ++ js.plain.varTypes jP).any (jP.loopsFrom ·)) && (jc.wideKeys == (jf.params.toList ++ js.plain.varTypes jP ++ jf.resultTypes.toList).any (jP.wideKeysFrom ·)) && js.vars.all (jP.varReadable ·) && jf.resultTypes.all (fun t => jP.readableRec t && decide (t < jP.types.size)) && (jc.ifacesOut == jf.resultTypes.toList.any (jP.ifacesRec ·)) && (jc.loopsOut == jf.resultTypes.toList.any (jP.loopsFrom ·)) && (jc.plainKeys == jP.plainKeys) && jc.shortTexts.isNone && jP.stopsHeard && jP.mayEnter && (jc.lifted == jP.liftsFinal) && (jP.make == some jc.make) && (jc.kinds == (if jc.domain.isEmpty then [] else jf.params.toList.map fun t => match jP.underlying t with | some (.int k) => some k | _ => none)) && (jc.pinned == jc.pinnedBy) && (jc.veiled == (jf.params.toList ++ js.plain.varTypes jP ++ jf.resultTypes.toList).any (jP.veiledRec ·)) && jc.veiledFits jP jf.params.toList (jf.params.toList ++ js.plain.varTypes jP ++ jf.resultTypes.toList)) = true := (band (band (band (band (band (band (band (band (band (band (band (band (band (band (band (band (band (band (band (band (band (band (band (band (band (band (band (band (band (band (band j0 j1) j2) j3) j4) j5) j6) j7) j8) j9) j10) j11) j12) j13) j14) j15) j16) j17) j18) j19) j20) j21) j22) j23) j24) j25) j26) j27) j28) j29) j30) j31)
set_option maxRecDepth 100000 in
theorem closed : joinedFacts jP 4 jf js jc = true := by
  unfold joinedFacts
  exact closed0
end Go.Proofs.YtfojoloiahhphaaGreatDoor.ownerNames

/- THE STATEMENT 'OwnerNames': it returns true, from whatever world in which the listed variables (errors.errorType, utf8.first, utf8.acceptRanges) lie as the program's text lays them. -/
namespace Go.Proofs.YtfojoloiahhphaaGreatDoor.ownerNames
open Go Go.Proofs Go.RowKit Go.ChangeShapes Go.WideShapes Go.ChangeAt
theorem c1 : Tryz.pinned.checked.prog.funcNamed Rows.ownerNamesRow.func = some 4 := by kernel_rfl
theorem c2 : Rows.ownerNamesRow.wfByText (OpenSpec.ofChange Rows.ownerNamesSpec) = true := by kernel_rfl
theorem c3 : Tryz.pinned.checked.prog.mainIs = some (true, "a9024aa76b196d545967aa7f8eeda30818557fdb57131f274e07523135719cfa".toList) := by kernel_rfl
theorem c4 : true = Tryz.pinned.checked.prog.looks [] := by kernel_rfl
theorem c5 : false = Rows.ownerNamesRow.goesBy Tryz.pinned.checked.prog := by kernel_rfl
theorem holds : Rows.OwnerNamesSaid :=
  OpenClaim.holds_of_wide 4 Tryz.f4 rfl rfl rfl rfl rfl rfl rfl ⟨rfl, rfl, rfl, rfl, rfl⟩ rfl rfl rfl rfl rfl c1 Tryz.func4 closed
    (of_decide_eq_true (by kernel_rfl)) (by unfold Func.isWrapper; first | (rw [if_pos (by decide +kernel)]; kernel_rfl) | (rw [if_neg (by decide +kernel)]; exact ⟨rfl, rfl⟩))
    (fun os started H enc _ => lifted os started H enc)

/-- ████ THE STATEMENT ████ -/
theorem proved : Rows.OwnerNamesCardSaid :=
  Claim7.holds_tied_plain_at .later [] [.data, .handle, .pinned] true (true, "a9024aa76b196d545967aa7f8eeda30818557fdb57131f274e07523135719cfa") true holds (fun _ h => by cases h) c2 (fun _ h => by cases h) ownerNames_row_tie rfl ⟨rfl, rfl⟩ c3 rfl
    (fun f fn hf hfn => by
      obtain rfl : f = 4 := Option.some.inj (c1.symm.trans hf) |>.symm
      obtain rfl : fn = Tryz.f4 := (Option.some.inj (Tryz.func4.symm.trans hfn)).symm
      exact ⟨c4, fun j t ht => by
        rw [Tryz.params4] at ht
        simp at ht⟩)
    c5
#print axioms proved
end Go.Proofs.YtfojoloiahhphaaGreatDoor.ownerNames
