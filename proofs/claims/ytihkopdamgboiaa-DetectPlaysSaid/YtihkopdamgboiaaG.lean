/- A nil watcher's Says; DetectNames. -/
import Derived.Test.YtihkopdamgboiaaF
namespace Go.Proofs.Ytihkopdamgboiaa
open Go.RowKit Go.Shelf
set_option linter.unusedVariables false
attribute [local go_sem] Oper.semAt_some

set_option maxRecDepth 100000 in
set_option maxHeartbeats 1000000 in
theorem all1_nil_in (n l B1 B2 : Nat) (J : List (Int × Bool) → World → Prop) (W : World) (hB1 : W.cell? ⟨B1, 0, none⟩ = some (.pointer none)) (h0 : J [] W) :
    CallsIn Fence.wide n Try.prog 23 #[.func (.yield l) #[] #[], .pointer (some ⟨B1, 0, none⟩), .pointer (some ⟨B2, 0, none⟩)] W fun e W' => (∃ v, e = .returned v) ∧ J [] W' := by
  refine callsIn_of_wp Try.func23 rfl trivial ?_ rfl
  simp only [Try.ntmps23, List.size_toArray, List.length_cons, List.length_nil, Nat.reduceAdd, Nat.reduceSub, Array.replicate_succ, Array.replicate_zero, List.push_toArray, List.append_toArray, List.nil_append, List.cons_append]
  gi_wp2
  refine bodyPost_ret (results_none rfl _ _ _) rfl ?_
  exact ⟨⟨_, rfl⟩, h0⟩
theorem nil_stops (n : Nat) (_hn : 1 ≤ n) (B1 B2 : Nat) (w : World) (hB1 : w.cell? ⟨B1, 0, none⟩ = some (.pointer none)) (hl1 : B1 < w.heap.size) {n₀ : Nat} :
    SeqStopsK Fence.wide n Try.prog 23 #[.pointer (some ⟨B1, 0, none⟩), .pointer (some ⟨B2, 0, none⟩)] (fun x : Int × Bool => #[Value.int .i64 x.1, .bool x.2]) (Below n₀) (fun ys => ys = []) (fun _ => False) 0 w := fun l J Jx W hW _ _ hY h0 =>
  (all1_nil_in n l B1 B2 J W ((hW.cell (p := ⟨B1, 0, none⟩) hl1).trans hB1) h0).mono fun e W' ⟨he, hj⟩ => ⟨he, .inl ⟨_, rfl, hj⟩⟩

set_option maxRecDepth 100000 in
set_option maxHeartbeats 2000000 in
theorem says_nil_in (now : Int) (a : Option Addr) (len cap : Nat) (hn0 : 0 ≤ now) (w : World) :
    CallsIn Fence.wide 6 Try.prog 10 #[.pointer none, .slice a len cap, .int .i64 now] w fun e w' => e = .returned (.slice none 0 0) ∧ Below w.heap.size w w' := by
  refine callsIn_of_wp_marks Try.func10 rfl trivial ?_ rfl
  simp only [Try.ntmps10, List.size_toArray, List.length_cons, List.length_nil, Nat.reduceAdd, Nat.reduceSub, Array.replicate_succ, Array.replicate_zero, List.push_toArray, List.append_toArray, List.nil_append, List.cons_append]
  gi_wp2_with (refine ⟨trivial, ?_⟩; gi_at_call 21; refine (all_in _ _ _ _).mono ?_; rintro e w' ⟨rfl, rfl⟩)
  have hB0 : Below w.heap.size w (((((w.alloc (.cells #[.slice a len cap] 23)).alloc (.cells #[.func (.func 19) #[] #[.pointer (some ⟨w.heap.size, 0, none⟩)]] 49)).alloc (.cells #[.slice none 0 0] 33)).alloc (.cells #[.pointer none] 25)).alloc (.cells #[.int .i64 now] 3)) := (((((Below.refl _ w).alloc (Nat.le_refl _) _).alloc (by simp) _).alloc (by simp; omega) _).alloc (by simp; omega) _).alloc (by simp; omega) _
  have q0 := Boxed.new w 23 (.slice a len cap)
  replace q0 := Boxed.alloc q0 (.cells #[.func (.func 19) #[] #[.pointer (some ⟨w.heap.size, 0, none⟩)]] 49)
  replace q0 := Boxed.alloc q0 (.cells #[.slice none 0 0] 33)
  replace q0 := Boxed.alloc q0 (.cells #[.pointer none] 25)
  replace q0 := Boxed.alloc q0 (.cells #[.int .i64 now] 3)
  have q1 := Boxed.new (w.alloc (.cells #[.slice a len cap] 23)) 49 (.func (.func 19) #[] #[.pointer (some ⟨w.heap.size, 0, none⟩)])
  simp only [World.size_alloc] at q1
  replace q1 := Boxed.alloc q1 (.cells #[.slice none 0 0] 33)
  replace q1 := Boxed.alloc q1 (.cells #[.pointer none] 25)
  replace q1 := Boxed.alloc q1 (.cells #[.int .i64 now] 3)
  have q2 := Boxed.new ((w.alloc (.cells #[.slice a len cap] 23)).alloc (.cells #[.func (.func 19) #[] #[.pointer (some ⟨w.heap.size, 0, none⟩)]] 49)) 33 (.slice none 0 0)
  simp only [World.size_alloc] at q2
  replace q2 := Boxed.alloc q2 (.cells #[.pointer none] 25)
  replace q2 := Boxed.alloc q2 (.cells #[.int .i64 now] 3)
  have q3 := Boxed.new (((w.alloc (.cells #[.slice a len cap] 23)).alloc (.cells #[.func (.func 19) #[] #[.pointer (some ⟨w.heap.size, 0, none⟩)]] 49)).alloc (.cells #[.slice none 0 0] 33)) 25 (.pointer none)
  simp only [World.size_alloc] at q3
  replace q3 := Boxed.alloc q3 (.cells #[.int .i64 now] 3)
  have q4 := Boxed.new ((((w.alloc (.cells #[.slice a len cap] 23)).alloc (.cells #[.func (.func 19) #[] #[.pointer (some ⟨w.heap.size, 0, none⟩)]] 49)).alloc (.cells #[.slice none 0 0] 33)).alloc (.cells #[.pointer none] 25)) 3 (.int .i64 now)
  simp only [World.size_alloc] at q4
  refine wpIn_rangeFunc_ownG rfl (by omega) (gf := 23) (lb := #[.pointer (some ⟨w.heap.size + 1 + 1 + 1, 0, none⟩), .pointer (some ⟨w.heap.size + 1 + 1 + 1 + 1, 0, none⟩)]) rfl trivial (enters_of Try.func23 (by kernel_rfl) rfl)
    (nil_stops 5 (by omega) _ _ _ q3.cell (by simp)) belowK_t (belowK_b (n₀ := w.heap.size) (by simp; omega)) (Below.refl _ _) (fun _ => rfl)
    (fun _ W => Boxed W (w.heap.size + 1 + 1) 33 (.slice none 0 0) ∧ Below w.heap.size w W)
    (fun _ _ _ => False)
    (OwnFrom.and (Own.from (fun s A B row hs hg hr => boxed_kept hs hg hr) _) (ownFrom_below (Nat.le_refl _) (by simp; omega)))
    (fun _ _ _ _ _ hs _ _ => hs)
    ⟨q2, hB0⟩
    (fun x => { tmps := #[.pointer none, .slice a len cap, .int .i64 now, undef, .pointer (some ⟨w.heap.size, 0, none⟩), undef, .slice none 0 0, .pointer (some ⟨w.heap.size + 1, 0, none⟩), .pointer (some ⟨w.heap.size + 1 + 1, 0, none⟩), .int .i64 x.1, .bool x.2, .int .i64 now, .bool (decide (now < 0)), .func (.func 19) #[] #[.pointer (some ⟨w.heap.size, 0, none⟩)], .pointer none, .int .i64 now, .func (.func 23) #[] #[.pointer (some ⟨w.heap.size + 1 + 1 + 1, 0, none⟩), .pointer (some ⟨w.heap.size + 1 + 1 + 1 + 1, 0, none⟩)], .int .i64 x.1, .bool x.2, undef, undef, undef, undef, undef, undef, undef, undef, undef, undef, undef, undef, undef, undef, undef, undef, undef, undef, undef, undef, undef, undef, undef, undef, undef, undef, undef], defers := [] }) ?assign ?body ?done ?stop
  case assign =>
    intro l x W K hK
    gi_wp2
    exact hK
  case body =>
    rintro l pre ⟨st, sil⟩ W _ hlt
    exact absurd hlt (by omega)
  case done =>
    rintro D ys W hD rfl ⟨hv, hB⟩ hK
    clear q0 q1 q2 q3 q4 hB0
    have hc := hv.cell
    gi_wp2
    refine ⟨by simp, .inl ⟨_, _, rfl, run_takeDeferred hK, ?_⟩⟩
    exact ⟨_, results_tmp rfl _ _ _, rfl, hB.trans (belowK_b (w := w) (Nat.le_refl _) W D _ _ (by simp at hD; omega) hK rfl rfl)⟩
  case stop =>
    rintro D c pre W _ _ h _
    exact h.elim

theorem says_nil (now : Int) (a : Option Addr) (len cap : Nat) (hn0 : 0 ≤ now) (w : World) :
    Calls Try.prog 10 #[.pointer none, .slice a len cap, .int .i64 now] w fun e w' => e = .returned (.slice none 0 0) ∧ Below w.heap.size w w' := callsIn_wide.1 (says_nil_in now a len cap hn0 w)
end Go.Proofs.Ytihkopdamgboiaa
