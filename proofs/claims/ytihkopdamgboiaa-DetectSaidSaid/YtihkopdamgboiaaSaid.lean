/- Proved: the law DetectSaid returns true for every number of stores, every patience, every list of steps, every list of stores that are down and every tick, in whatever memory, and changes nothing that was there. Conditions: none. -/
import Derived.Test.YtihkopdamgboiaaRows
import Derived.WalkKit
import Derived.ProofKit
import Derived.OpenShut
import Derived.ShutString
import Derived.ChangeOld
import Derived.Below
import Derived.Test.YtihkopdamgboiaaL
import Derived.Test.YtihkopdamgboiaaN
namespace Go.Proofs.Ytihkopdamgboiaa.detectSaid
open Go.ChangeShapes Go.WideShapes Go.ChangeAt Go.RowKit
open Go.ChangeMaps (open_string shut_string)
set_option linter.unusedVariables false

theorem own : ownKnob Try.prog.godebug = none := by kernel_rfl
theorem laidOut : laidOutB Try.prog = true := by kernel_rfl

theorem walk (a0 a1 : Int) (p2 : Option Addr) (len2 cap2 : Nat) (p3 : Option Addr) (len3 cap3 : Nat) (a4 : Int) (ds : List Int) (w : World)
    (h2 : len2 ≤ 9223372036854775807 ∧ ∀ k, k < len2 → ∃ blk off kd st nw pd ld cd ds, p2 = some ⟨blk, off, none⟩ ∧ blk < w.heap.size ∧ StepAt w blk (off + k * 4) kd st nw pd ld cd ds)
    (h3 : Ints w.heap.size w (.slice p3 len3 cap3) ds) (h3l : ds.length = len3) (h3m : len3 ≤ 9223372036854775807) (w4 : (Lit.int .i64 a4).wf = true) :
    Calls Try.prog 3 #[.int .i64 a0, .int .i64 a1, .slice p2 len2 cap2, .slice p3 len3 cap3, .int .i64 a4] w fun e w' => e = .returned (.bool true) ∧ Below w.heap.size w w' := by
  by_cases hl : 200 < len2 ∨ 100 < len3
  · exact said_long a0 a1 p2 len2 cap2 p3 len3 cap3 a4 w hl h2.1 h3m
  · refine said_short a0 a1 p2 len2 cap2 p3 len3 cap3 a4 w (by omega) (by omega) ds h3 h3l (wf_bounds w4).2 fun k hk => ?_
    obtain ⟨blk, off, kd, st, nw, pd, ld, cd, ds', e, hb, hs⟩ := h2.2 k hk
    exact ⟨blk, off, st, nw, e, hb, hs.store, hs.now⟩

/-! ### THE ROW's STEP: WRITTEN OUT: LEAVE IT -/
set_option maxRecDepth 100000 in
theorem lifted (os : Os) (started : os.Started) (H : Type) (enc : TypeId × Value → H) :
    ReturnsInHanded {} Try.checked os 3 .any (Rows.detectSaidSpec.pre6 enc Try.prog Try.f3 Rows.detectSaidRow.domain false) (Rows.detectSaidSpec.post enc Try.prog Try.f3 false true false false) := by
  refine returnsInHanded_of_change (C := Try.checked) own started (by kernel_rfl) Try.func3
    (ChangeSpec.witness6 (enc := enc) (C := Try.checked) false ⟨#[], #[.int .i64 0, .int .i64 0, .slice none 0 0, .slice none 0 0, .int .i64 0], []⟩ 8 (by kernel_rfl) (by kernel_rfl) (by kernel_rfl) (by kernel_rfl)) ?_
  intro W base args ds gs before hval0 hW hcnd _
  have hval : ∀ (j : Nat) t v, Try.f3.params[j]? = some t → args[j]? = some v → Value.okWide Try.prog W .any base t v := hval0
  have hW' := hW
  obtain ⟨p, q, hA0, hV, rfl, hfz, hnd⟩ := hW
  have hA : DataW.TrodAll enc Try.prog W 0 (fun _ => true) true Try.f3.params.toList args.toList ds p := hA0
  rw [Try.params3] at hA hval
  obtain ⟨v0, vs0, d0, ds0, p0, q0, hargs, rfl, rfl, h0, r0⟩ := trodAll_cons hA
  obtain ⟨v1, vs1, d1, ds1, p1, q1, rfl, rfl, rfl, h1, r1⟩ := trodAll_cons r0
  obtain ⟨v2, vs2, d2, ds2, p2, q2, rfl, rfl, rfl, h2, r2⟩ := trodAll_cons r1
  obtain ⟨v3, vs3, d3, ds3, p3, q3, rfl, rfl, rfl, h3, r3⟩ := trodAll_cons r2
  obtain ⟨v4, vs4, d4, ds4, p4, q4, rfl, rfl, rfl, h4, r4⟩ := trodAll_cons r3
  obtain ⟨rfl, rfl, rfl⟩ := trodAll_nil r4
  obtain rfl : args = #[v0, v1, v2, v3, v4] := by cases args; simp_all
  obtain ⟨rfl, rfl⟩ := trodVars_none hV
  obtain ⟨a0, rfl, rfl, rfl, w0⟩ := open_int Try.underlying3 (hval 0 3 v0 rfl rfl) h0
  obtain ⟨a1, rfl, rfl, rfl, w1⟩ := open_int Try.underlying3 (hval 1 3 v1 rfl rfl) h1
  obtain ⟨a2, len2, cap2, rfl⟩ := okWide_slice Try.underlying22 (hval 2 22 v2 rfl rfl)
  have k2 := h2
  have lt2 : ∀ x ∈ p2, x.block < W.heap.size := by obtain ⟨m, hm⟩ := k2; exact DataW.trod_lt m _ _ _ hm
  obtain ⟨a3, len3, cap3, rfl⟩ := okWide_slice Try.underlying23 (hval 3 23 v3 rfl rfl)
  have k3 := h3
  have lt3 : ∀ x ∈ p3, x.block < W.heap.size := by obtain ⟨m, hm⟩ := k3; exact DataW.trod_lt m _ _ _ hm
  obtain ⟨a4, rfl, rfl, rfl, w4⟩ := open_int Try.underlying3 (hval 4 3 v4 rfl rfl) h4
  have hst : len2 ≤ 9223372036854775807 ∧ ∀ k, k < len2 → ∃ blk off kd st nw pd ld cd ds, a2 = some ⟨blk, off, none⟩ ∧ blk < W.heap.size ∧ StepAt W blk (off + k * 4) kd st nw pd ld cd ds := by
    obtain ⟨fuel, hf⟩ := h2
    exact steps_read hf
  obtain ⟨zs, hz1, hz2, hz3⟩ : ∃ zs, Ints W.heap.size W (.slice a3 len3 cap3) zs ∧ zs.length = len3 ∧ len3 ≤ 9223372036854775807 := by
    obtain ⟨fuel, hf⟩ := h3
    obtain ⟨p, l, c, zs, e, g1, g2, g3⟩ := ints_read hf
    cases e
    exact ⟨zs, g1, g2, g3⟩
  clear hA0 hval0
  refine (walk a0 a1 a2 len2 cap2 a3 len3 cap3 a4 zs W hst hz1 hz2 hz3 w4).mono fun e W' ⟨he, bel⟩ => ?_
  subst he
  exact ⟨_, rfl, _, _, _, [], _, [], hW', trodAll_mk1 (shut_bool Try.underlying4 _), (trodAll_cons_mk (shut_int Try.underlying3 w0) (trodAll_cons_mk (shut_int Try.underlying3 w1) (trodAll_cons_mk (Below.trod laidOut (by kernel_rfl) (of_decide_eq_true (by kernel_rfl)) k2 bel lt2) (trodAll_cons_mk (Below.trod laidOut (by kernel_rfl) (of_decide_eq_true (by kernel_rfl)) k3 bel lt3) (trodAll_cons_mk (shut_int Try.underlying3 w4) trodAll_mk0))))), rfl, bel.frame _, fun h => by cases h⟩

theorem over : Rows.detectSaidRow.holds Try.pinned (OpenSpec.ofChange Rows.detectSaidSpec) :=
  OpenClaim.holds_of_wide 3 Try.f3 rfl rfl rfl rfl rfl rfl rfl ⟨rfl, rfl, rfl, rfl, rfl⟩ rfl rfl rfl rfl rfl (by kernel_rfl) Try.func3 (by kernel_rfl)
    (of_decide_eq_true (by kernel_rfl)) (by unfold Func.isWrapper; first | (rw [if_pos (by decide +kernel)]; kernel_rfl) | (rw [if_neg (by decide +kernel)]; exact ⟨rfl, rfl⟩))
    (fun os started H enc _ => lifted os started H enc)

/-- ████ THE STATEMENT ████ -/
theorem proved : Rows.DetectSaidSaid := over
#print axioms proved
end Go.Proofs.Ytihkopdamgboiaa.detectSaid
