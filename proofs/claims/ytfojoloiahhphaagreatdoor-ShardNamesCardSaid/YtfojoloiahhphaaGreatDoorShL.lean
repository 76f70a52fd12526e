import Derived.Test.YtfojoloiahhphaaGreatDoorSimInst
import Derived.Test.YtfojoloiahhphaaGreatDoorSnT
import Derived.Test.YtfojoloiahhphaaGreatDoorRows
import Derived.Test.YtfojoloiahhphaaGreatDoorTie
import Derived.Test.YtfojoloiahhphaaGreatDoorCards
import Derived.WalkKit
import Derived.ProofKit
import Derived.Lay
import Derived.LaidOnce
import Derived.LaidHandle
import Derived.SevenTiedAt
namespace Sim
open Go Go.Proofs
theorem I3_sound : IntXSound P0 I3 := by
  intro f g h call hc args st v st' hv
  unfold I3 at h
  rw [bsel_eq] at h
  split at h
  · rename_i e
    rw [Nat.beq_eq] at e
    subst e
    exact (reloO_strong (snapI_strong P0_mixed (runX_sound P0_mixed I2_sound 100) sC0_is (funXK_strong P0_mixed hc))).out g h args st v st' hv
  exact I2_sound f g h call hc args st v st' hv
theorem I4_sound : IntXSound P0 I4 := by
  intro f g h call hc args st v st' hv
  unfold I4 at h
  rw [bsel_eq] at h
  split at h
  · rename_i e
    rw [Nat.beq_eq] at e
    subst e
    exact (reloO_strong (snapI_strong P0_mixed (runX_sound P0_mixed I3_sound 100) sA0_is (funXK_strong P0_mixed hc))).out g h args st v st' hv
  exact I2_sound f g h call hc args st v st' hv
theorem I5_sound : IntXSound P0 I5 := by
  intro f g h call hc args st v st' hv
  have h0 := runX_sound P0_mixed I4_sound 100
  unfold I5 at h
  rw [bsel_eq] at h
  split at h
  · rename_i e
    rw [Nat.beq_eq] at e
    subst e
    exact (snapI_strong P0_mixed h0 sB1_is (funXK_strong P0_mixed hc)).out g h args st v st' hv
  rw [bsel_eq] at h
  split at h
  · rename_i e
    rw [Nat.beq_eq] at e
    subst e
    exact (snapI_strong P0_mixed h0 sB4_is (snapI_strong P0_mixed h0 sB5_is (snapI_strong P0_mixed h0 sB6_is (funXK_strong P0_mixed hc)))).out g h args st v st' hv
  exact I4_sound f g h call hc args st v st' hv
theorem I6_sound : IntXSound P0 I6 := by
  intro f g h call hc args st v st' hv
  unfold I6 at h
  rw [bsel_eq] at h
  split at h
  · rename_i e
    rw [Nat.beq_eq] at e
    subst e
    cases h
    exact saysG_sound P0_mixed (runX_sound P0_mixed I5_sound 100) awake_is args st v st' hv
  exact I4_sound f g h call hc args st v st' hv
end Sim

/- The row and its card: ShardNames returns true: whatever world it is called from, in which the listed variables lie as the program's text lays them. -/
namespace Go.Proofs.YtfojoloiahhphaaGreatDoor.shardNames
open Go Go.Proofs Go.RowKit Go.ChangeShapes Go.WideShapes Go.ChangeAt
open Sim (P0)
theorem walk (w : World) (hg : w.cell? ⟨0, 0, none⟩ = some (.iface 314 (.agg #[.pointer (some ⟨3, 90, none⟩)]))) : Calls Tryz.prog 3 #[] w fun e w' => e = .returned (.bool true) ∧ ∀ may, w.keptBut w' may := by
  refine (Sim.says_calls (P := P0) Sim.P0_mixed (Sim.runX_sound Sim.P0_mixed Sim.I6_sound 100) Sim.shard_is w (fun r v h => by
    simp only [Sim.globs, List.mem_singleton, Prod.mk.injEq] at h
    obtain ⟨rfl, rfl⟩ := h
    exact hg)).mono ?_
  rintro e w' ⟨v', rfl, hv, h1, h2, h3, h4⟩
  cases hv
  refine ⟨rfl, fun may => ⟨h1, h2, fun i hi => ?_⟩⟩
  rw [h4 i hi]
  split <;> simp_all

theorem own : ownKnob Tryz.prog.godebug = none := by kernel_rfl
theorem et : Tryz.prog.globalNamed "errors.errorType" = some 0 := by kernel_rfl
theorem rt : (Tryz.prog.cutTypes.find? (·.1 == "internal/reflectlite.rtype")).map (·.2) = some 314 := by kernel_rfl
theorem oneRow : ((List.range 457).filter fun t => Tryz.prog.rowNamed t [101, 114, 114, 111, 114]) = [90] := by kernel_rfl
theorem size : Tryz.prog.types.size = 457 := by kernel_rfl
/-- What the condition gives: the variable's one cell. -/
theorem handle_of_laid {W : World} (h : laidMetH Tryz.prog Rows.shardNamesRow.laid W) : W.cell? ⟨0, 0, none⟩ = some (.iface 314 (.agg #[.pointer (some ⟨3, 90, none⟩)])) := by
  have h' : laidMet Tryz.prog _ W ∧ handlesMet Tryz.prog [("errors.errorType", Rows.laid_errors_errorType)] W := h
  obtain ⟨name, u, ty, e1, e2, e3, e4, e5⟩ := h'.2 _ (List.mem_singleton.2 rfl)
  have en : name = [101, 114, 114, 111, 114] := (Option.some.inj e1).symm
  subst en
  obtain rfl := Option.some.inj (rt.symm.trans e2)
  have hm : ty ∈ (List.range 457).filter fun t => Tryz.prog.rowNamed t [101, 114, 114, 111, 114] := List.mem_filter.2 ⟨List.mem_range.2 (by rw [← size]; exact e3), e4⟩
  rw [oneRow] at hm
  obtain rfl := List.mem_singleton.1 hm
  have hh : typeHandle Tryz.prog 90 = .pointer (some ⟨3, 90, none⟩) := by kernel_rfl
  rw [hh] at e5
  simpa using World.var?_cell et e5 0

/-- A world that meets the condition. -/
noncomputable def dataL : List (String × DataW Unit) := [("unicode/utf8.acceptRanges", Rows.laid_unicode_utf8_acceptRanges), ("unicode/utf8.first", Rows.laid_unicode_utf8_first)]
noncomputable def handleW (os : Os) : World :=
  let w0 := World.holding Tryz.prog os ⟨#[], #[], []⟩
  { w0 with heap := w0.heap.modify 0 fun
      | .cells _ t frozen => .cells #[.iface 314 (.agg #[.pointer (some ⟨3, 90, none⟩)])] t frozen
      | o => o }
noncomputable def laidWorld (os : Os) : World := (handleW os).layVars Tryz.prog dataL
theorem laidMet_from {P : Program} {w0 : World} {laid : List (String × DataW Unit)} (hf : w0.layFits P laid [] = true) (hi : w0.layIfaces P laid (w0.layVars P laid) = true) : laidMet P laid (w0.layVars P laid) := by
  have e1 : (laid.filter fun x => (laid.map (·.1)).contains x.1) = laid := List.filter_eq_self.2 fun x hx => List.contains_iff_mem.2 (List.mem_map.2 ⟨x, hx, rfl⟩)
  have e2 : (laid.filter fun x => !(laid.map (·.1)).contains x.1) = [] := List.filter_eq_nil_iff.2 fun x hx => by rw [List.contains_iff_mem.2 (List.mem_map.2 ⟨x, hx, rfl⟩)]; simp
  exact laidMet_layVars (w0 := w0) (laid.map (·.1)) [] (by rw [e1]) (by rw [e1]; exact hf) (by rw [e1]; exact hi) (by rw [e2]; exact LaidIn.none)
theorem laidData (os : Os) (args : Array Value) : laidMet Tryz.prog dataL ((laidWorld os).forCall (fun _ _ => 0) ⟨#[], args, []⟩).memory := by
  have h : laidMet Tryz.prog dataL (laidWorld os) := laidMet_from (w0 := handleW os) (by kernel_rfl) (by kernel_rfl)
  exact h.of_heap (by simp [World.memory, World.forCall, Input.heap])
theorem laidWorld_met (os : Os) (args : Array Value) : laidMetH Tryz.prog Rows.shardNamesRow.laid ((laidWorld os).forCall (fun _ _ => 0) ⟨#[], args, []⟩).memory :=
  laidMetH_of_parts (by
    have e : (Rows.shardNamesRow.laid.filter fun x => x.2.handleName?.isNone) = dataL := by kernel_rfl
    rw [e]
    exact laidData os args) (by kernel_rfl)

set_option maxRecDepth 100000 in
theorem lifted (os : Os) (started : os.Started) (H : Type) (enc : TypeId × Value → H) :
    ReturnsInHanded {} Tryz.checked os 3 .any (fun w args => (Rows.shardNamesSpec.pre enc Tryz.prog Tryz.f3 [] false w args ∧ laidMetH Tryz.prog Rows.shardNamesRow.laid w) ∧ sizedMet enc Tryz.prog Tryz.f3 (OpenSpec.ofChange Rows.shardNamesSpec) false w args)
      (Rows.shardNamesSpec.post enc Tryz.prog Tryz.f3 false true false false) := by
  refine returnsInHanded_of_change_and (C := Tryz.checked) (X := fun w _ => laidMetH Tryz.prog Rows.shardNamesRow.laid w) (fun _ _ _ hh h => h.of_heap hh) own started (by kernel_rfl) Tryz.func3
    (ChangeSpec.witness_shaped (enc := enc) (C := Tryz.checked) (os := os) (X := fun w _ => laidMetH Tryz.prog Rows.shardNamesRow.laid w) false (laidWorld os) #[] 8 (World.layVars_os _ _ _)
      (World.shaped_of_ZipB (by kernel_rfl) (by kernel_rfl)) (by kernel_rfl) (by kernel_rfl) (by kernel_rfl)
      (laidWorld_met os _)) ?_
  intro W base args ds gs before hval0 hW _ _ hL _
  have hval : ∀ (j : Nat) t v, Tryz.f3.params[j]? = some t → args[j]? = some v → Value.okWide Tryz.prog W .any base t v := hval0
  have hW' := hW
  obtain ⟨p, q, hA0, hV, rfl, _, _⟩ := hW
  have hA : DataW.TrodAll enc Tryz.prog W 0 (fun _ => true) true Tryz.f3.params.toList args.toList ds p := hA0
  rw [Tryz.params3] at hA hval
  obtain ⟨rfl, rfl, rfl⟩ := trodAll_none hA
  obtain ⟨rfl, rfl⟩ := trodVars_none hV
  simp only [List.append_nil] at hW'
  refine (walk W (handle_of_laid hL)).mono fun e W' ⟨he, hb⟩ => ?_
  subst he
  exact ⟨_, rfl, _, _, _, [], [], [], hW', trodAll_mk1 (shut_bool Tryz.underlying4 _), trodAll_mk0, rfl, hb _, fun h => by cases h⟩

end Go.Proofs.YtfojoloiahhphaaGreatDoor.shardNames
