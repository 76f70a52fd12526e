/- DetectInTheEnd. -/
import Derived.Test.YtihkopdamgboiaaH
namespace Go.Proofs.Ytihkopdamgboiaa
open Go.RowKit Go.Shelf
set_option linter.unusedVariables false
attribute [local go_sem] Oper.semAt_some

theorem step_ex (z p : Int) (hp : 1 ≤ p) (hp2 : p ≤ 1000000) : ∃ s : Int, 0 ≤ s ∧ s < p ∧ wrap64 ((IntKind.u64.wrap z).tmod p) = s := by
  have h1 : 0 ≤ IntKind.u64.wrap z := by rw [IntKind.wrap_u64]; omega
  have h2 : (IntKind.u64.wrap z).tmod p = (IntKind.u64.wrap z) % p := Int.tmod_eq_emod_of_nonneg h1
  have h3 : 0 ≤ (IntKind.u64.wrap z) % p := Int.emod_nonneg _ (by omega)
  have h4 : (IntKind.u64.wrap z) % p < p := Int.emod_lt_of_pos _ (by omega)
  refine ⟨(IntKind.u64.wrap z) % p, h3, h4, ?_⟩
  rw [h2, IntWalk.wrap64_in _ (by omega)]
theorem wrap_sum (a b : Int) (h0 : 0 ≤ a) (h1 : 0 ≤ b) (h2 : a ≤ 1000000000) (h3 : b ≤ 1000000000) : wrap64 (a + b) = a + b := IntWalk.wrap64_in _ (by omega)

set_option maxRecDepth 100000 in
set_option maxHeartbeats 1000000 in
theorem end_long (a0 : Int) (a1 : Option Addr) (len cap : Nat) (a2 : Int) (W : World) (hl : 200 < len) (hm : len ≤ 9223372036854775807) :
    Calls Try.prog 6 #[.int .i64 a0, .slice a1 len cap, .int .i64 a2] W fun e w' => e = .returned (.bool true) ∧ Below W.heap.size W w' := by
  go_enter Try.func6, Try.ntmps6
  go_wp2_with fail
  refine (works_any W).mono ?_
  rintro e w1 ⟨rfl, hB1⟩
  have hz1 := hB1.size
  have hB1' := Lib.hid hB1
  clear hB1
  go_wp2_with fail
  refine (works_any _).mono ?_
  rintro e w2 ⟨rfl, hB2⟩
  have hB2' := Lib.hid hB2
  clear hB2
  go_wp2
  go_ret
  exact ⟨rfl, hB1'.out.trans (hB2'.out.mono hz1)⟩

set_option maxRecDepth 100000 in
set_option maxHeartbeats 1000000 in
theorem end_short (a0 : Int) (a1 : Option Addr) (len cap : Nat) (a2 : Int) (W : World) (hl : len ≤ 200) (h0 : -9223372036854775808 ≤ a0) (h1 : a0 ≤ 9223372036854775807)
    (hc : ∀ k, k < len → ∃ blk off z, a1 = some ⟨blk, off, none⟩ ∧ blk < W.heap.size ∧ W.cell? ⟨blk, off + k, none⟩ = some (.int .i64 z)) :
    Calls Try.prog 6 #[.int .i64 a0, .slice a1 len cap, .int .i64 a2] W fun e w' => e = .returned (.bool true) ∧ Below W.heap.size W w' := by
  go_enter Try.func6, Try.ntmps6
  go_wp2_with fail
  refine (works_any W).mono ?_
  rintro e w1 ⟨rfl, hB1⟩
  have hz1 := hB1.size
  have hB1' := Lib.hid hB1
  clear hB1
  go_wp2_with fail
  obtain ⟨p, hp1, hp2, hp⟩ : ∃ p : Int, 1 ≤ p ∧ p ≤ 500 ∧ wrap64 (1 + wrap64 ((IntKind.u64.wrap a0).tmod 500)) = p := by
    obtain ⟨s, h0, h1, h2⟩ := step_ex a0 500 (by omega) (by omega)
    exact ⟨1 + s, by omega, by omega, by rw [h2, wrap_sum 1 s (by omega) (by omega) (by omega) (by omega)]⟩
  rw [hp]
  clear hp
  refine (new_yes _ 2 p 0 (by omega) (by omega) (by omega) (by omega) (by omega)).mono ?_
  rintro e w2 ⟨b, h, rfl, hw, hb, hh, hB2⟩
  have hz2 := hB2.size
  have hw2 := Lib.hid hw
  have hB2' := Lib.hid (hB1'.out.trans (hB2.mono hz1))
  clear hw hB2 hB1'
  go_wp2_with fail
  go_loopw [10, 11] (fun nv iv wr => ∃ (k : Nat) (now : Int), k ≤ len ∧ iv = .int .i64 k ∧ nv = .int .i64 now ∧ 0 ≤ now ∧ now ≤ 500 * k ∧ Hid (IsWatch wr b h p [now, 0]) ∧ Hid (Below W.heap.size W wr)) (fun _ iv _ => len - (intOf iv).toNat)
  case atStart => exact ⟨0, 0, Nat.zero_le _, rfl, rfl, by omega, by omega, hw2, hB2'⟩
  case round =>
    obtain ⟨k, now, hk, rfl, rfl, hn0, hn1, hwr, hBr⟩ := hrel
    by_cases hlt : k < len
    · obtain ⟨blk, off, z, rfl, hblk, hcz⟩ := hc k hlt
      have hcz' := (hBr.out.cell (p := ⟨blk, off + k, none⟩) hblk).trans hcz
      clear hc hcz
      go_wp2_with fail
      obtain ⟨st, hs0, hs1, hst⟩ := step_ex z p hp1 (by omega)
      have hw3 := hwr.out.sizes (by simp)
      have hsum := Lib.hid (wrap_sum now st (by omega) (by omega) (by omega) (by omega))
      rw [hst, hsum.out]
      have hst' := Lib.hid hst
      clear hst
      refine (silent_is false b h _ _ _ _ (by simp [silentB]; omega) hp1 (by omega) (by omega) (by omega) _ hw3.1 hw3.2 hwr.out).mono ?_
      rintro e w3 ⟨rfl, hB3⟩
      have hw4 := Lib.hid (hwr.out.below hw3.1 hw3.2 hB3)
      have hz3 := hB3.size
      have hzr := hBr.out.size
      have hB4 := Lib.hid (hBr.out.trans (hB3.mono hzr))
      clear hB3
      have hsum2 : wrap64 (now + st) = now + st := hsum.out
      go_wp2_with fail
      refine (heard_yes hw4.out 0 (now + st) (by simp) (by simp; omega)).mono ?_
      rintro e w4 ⟨rfl, rfl⟩
      have hw5a := hw4.out.set 0 (by simp) (now + st)
      have hB5a := hB4.out.setCell (p := ⟨h, 0, none⟩) (by simp; omega) (.int .i64 (now + st))
      generalize w3.setCell ⟨h, 0, none⟩ (.int .i64 (now + st)) = w5 at hw5a hB5a ⊢
      have hs5 := hw5a.sizes (by simp)
      have hz5 := hB5a.size
      have hw5 := Lib.hid hw5a
      have hB5 := Lib.hid hB5a
      clear hw5a hB5a
      go_wp2_with fail
      refine (silent_is (decide (p ≤ now + st)) b h _ _ _ _ (by simp only [silentB]; rw [decide_eq_decide]; simp) hp1 (by omega) (by omega) (by omega) _ hs5.1 hs5.2 hw5.out).mono ?_
      rintro e w6 ⟨rfl, hB6⟩
      have hw6 := Lib.hid (hw5.out.below hs5.1 hs5.2 hB6)
      have hB6' := Lib.hid (hB5.out.trans (hB6.mono hz5))
      clear hB6
      go_wp2
      go_roundw
      case rel => exact ⟨k + 1, now + st, by omega, by go_num, rfl, by omega, by omega, by simpa using hw6, hB6'⟩
      case measure => simp [intOf]; omega
    · obtain rfl : k = len := by omega
      clear hc
      go_wp2_with fail
      obtain ⟨mo, hs0, hs1, hst⟩ := step_ex a2 2000 (by omega) (by omega)
      have hw3 := hwr.out.sizes (by simp)
      rw [hst, wrap_sum now mo (by omega) (by omega) (by omega) (by omega)]
      have hsum2 : wrap64 (now + mo) = now + mo := wrap_sum now mo (by omega) (by omega) (by omega) (by omega)
      clear hst
      refine (silent_is (decide (p ≤ mo)) b h _ _ _ _ (by simp only [silentB]; rw [decide_eq_decide]; simp; omega) hp1 (by omega) (by omega) (by omega) _ hw3.1 hw3.2 hwr.out).mono ?_
      rintro e w3 ⟨rfl, hB3⟩
      have hw4 := Lib.hid (hwr.out.below hw3.1 hw3.2 hB3)
      have hz3 := hB3.size
      have hzr := hBr.out.size
      have hB4 := Lib.hid (hBr.out.trans (hB3.mono hzr))
      clear hB3
      go_wp2_with fail
      refine (heard_yes hw4.out 0 (now + mo) (by simp) (by simp; omega)).mono ?_
      rintro e w4 ⟨rfl, rfl⟩
      have hw5a := hw4.out.set 0 (by simp) (now + mo)
      have hB5a := hB4.out.setCell (p := ⟨h, 0, none⟩) (by simp; omega) (.int .i64 (now + mo))
      generalize w3.setCell ⟨h, 0, none⟩ (.int .i64 (now + mo)) = w5 at hw5a hB5a ⊢
      have hs5 := hw5a.sizes (by simp)
      have hz5 := hB5a.size
      have hw5 := Lib.hid hw5a
      have hB5 := Lib.hid hB5a
      clear hw5a hB5a
      go_wp2_with fail
      refine (silent_is false b h _ _ _ _ (by simp [silentB]; omega) hp1 (by omega) (by omega) (by omega) _ hs5.1 hs5.2 hw5.out).mono ?_
      rintro e w6 ⟨rfl, hB6⟩
      have hw6 := Lib.hid (hw5.out.below hs5.1 hs5.2 hB6)
      have hz6 := hB6.size
      have hB6' := Lib.hid (hB5.out.trans (hB6.mono hz5))
      clear hB6
      go_wp2_with fail
      refine (heard_yes hw6.out 1 (now + mo) (by simp) (by simp; omega)).mono ?_
      rintro e w4 ⟨rfl, rfl⟩
      have hw7a := hw6.out.set 1 (by simp) (now + mo)
      have hB7a := hB6'.out.setCell (p := ⟨h, 1, none⟩) (by simp; omega) (.int .i64 (now + mo))
      generalize w6.setCell ⟨h, 1, none⟩ (.int .i64 (now + mo)) = w7 at hw7a hB7a ⊢
      have hs7 := hw7a.sizes (by simp)
      have hz7 := hB7a.size
      have hw7 := Lib.hid hw7a
      have hB7 := Lib.hid hB7a
      clear hw7a hB7a
      have hs3 : wrap64 (now + mo + p) = now + mo + p := wrap_sum (now + mo) p (by omega) (by omega) (by omega) (by omega)
      go_wp2_with fail
      refine (silent_is false b h _ _ _ _ (by simp [silentB]; omega) hp1 (by omega) (by omega) (by omega) _ hs7.1 hs7.2 hw7.out).mono ?_
      rintro e w8 ⟨rfl, hB8⟩
      have hB8' := Lib.hid (hB7.out.trans (hB8.mono hz7))
      clear hB8
      go_wp2
      go_ret
      exact ⟨rfl, hB8'.out⟩
end Go.Proofs.Ytihkopdamgboiaa
