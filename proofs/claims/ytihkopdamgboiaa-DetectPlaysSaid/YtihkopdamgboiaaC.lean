/- The iterator over a watcher's stores. -/
import Derived.IntWalk
import Derived.Test.YtihkopdamgboiaaB
namespace Go.Proofs.Ytihkopdamgboiaa
open Go.RowKit Go.Shelf
set_option linter.unusedVariables false
attribute [local go_sem] Oper.semAt_some

theorem IsWatch.below {W W' : World} {n₀ b h : Nat} {pat : Int} {zs : List Int} (hw : IsWatch W b h pat zs) (hb : b < n₀) (hh : h < n₀) (hB : Below n₀ W W') : IsWatch W' b h pat zs where
  pat := (hB.cell (p := ⟨b, 0, none⟩) hb).trans hw.pat
  sl := (hB.cell (p := ⟨b, 1, none⟩) hb).trans hw.sl
  at' := fun j hj => (hB.cell (p := ⟨h, j, none⟩) hh).trans (hw.at' j hj)
  free := fun j hj => (hB.frozen (p := ⟨h, j, none⟩) hh).trans (hw.free j hj)
  ne := hw.ne
  few := hw.few

/-- What the iterator gives: the store, and whether it is silent. -/
def item (pat now : Int) (zs : List Int) (j : Nat) : Int × Bool := ((j : Int) + 1, decide (zs[j]?.getD 0 ≤ now - pat))
def upto {α : Type} (f : Nat → α) (k : Nat) : List α := (List.range k).map f
theorem upto_succ {α : Type} (f : Nat → α) (k : Nat) : upto f (k + 1) = upto f k ++ [f k] := by simp [upto, List.range_succ]
theorem upto_length {α : Type} (f : Nat → α) (k : Nat) : (upto f k).length = k := by simp [upto]

/-- What a round keeps: whatever lay below n₀, and the iterator's two boxes. -/
structure Kp (n₀ B1 B2 : Nat) (W W' : World) : Prop where
  below : Below n₀ W W'
  c1 : ∀ v, W.cell? ⟨B1, 0, none⟩ = some v → W'.cell? ⟨B1, 0, none⟩ = some v
  c2 : ∀ v, W.cell? ⟨B2, 0, none⟩ = some v → W'.cell? ⟨B2, 0, none⟩ = some v
theorem Kp.refl (n₀ B1 B2 : Nat) (W : World) : Kp n₀ B1 B2 W W := ⟨Below.refl _ _, fun _ h => h, fun _ h => h⟩
theorem Kp.trans {n₀ B1 B2 : Nat} {A B C : World} (h : Kp n₀ B1 B2 A B) (k : Kp n₀ B1 B2 B C) : Kp n₀ B1 B2 A C := ⟨h.below.trans k.below, fun v e => k.c1 v (h.c1 v e), fun v e => k.c2 v (h.c2 v e)⟩
theorem Kp.drew (n₀ B1 B2 : Nat) (W : World) : Kp n₀ B1 B2 W W.drew := ⟨Below.drew (Below.refl _ _), fun _ h => h, fun _ h => h⟩
theorem Kp.putObj {n₀ B1 B2 : Nat} {w : World} (hn : n₀ ≤ w.heap.size) (W : World) (l : Nat) (o o' : Obj) (hl : w.heap.size ≤ l) (hW : W.heap[l]? = some o) (ho : o.isCells = false) (hk : o.isWalk = false) : Kp n₀ B1 B2 W (W.putObj l o') :=
  ⟨belowK_b hn W l o o' hl hW ho hk, fun _ h => cell_kept h (grownBy_putObj' _ l o') (fun r e => by cases e; exact ⟨_, hW, ho⟩), fun _ h => cell_kept h (grownBy_putObj' _ l o') (fun r e => by cases e; exact ⟨_, hW, ho⟩)⟩

/-- What a round comes to, its answer being bb. -/
def RPost {α : Type} (J Jx : List α → World → Prop) (pre : List α) (K : World → World → Prop) (W : World) (bb : Bool) (W' : World) : Prop :=
  (bb = true ∧ J pre W' ∧ K W W') ∨ (bb = false ∧ Jx pre W')

set_option maxRecDepth 100000 in
set_option maxHeartbeats 2000000 in
theorem all1_in (n l B1 B2 n₀ b h : Nat) (hn : 1 ≤ n) (pat now : Int) (zs : List Int) (hb : b < n₀) (hh : h < n₀) (hp1 : 1 ≤ pat) (hp2 : pat ≤ 100000) (hn0 : 0 ≤ now) (hn1 : now ≤ 9223372036854775807) (J Jx : List (Int × Bool) → World → Prop) (hJd : ∀ pre W, J pre W → J pre W.drew)
    (hY : ∀ pre x W, J pre W → pre.length < zs.length → YieldAt Fence.wide (n - 1) Try.prog l #[.int .i64 x.1, .bool x.2] W fun e W' =>
      (e = .returned (.bool true) ∧ J (pre ++ [x]) W' ∧ Kp n₀ B1 B2 W W') ∨ (e = .returned (.bool false) ∧ Jx (pre ++ [x]) W'))
    (W : World) (hB1 : W.cell? ⟨B1, 0, none⟩ = some (.pointer (some ⟨b, 0, none⟩))) (hB2 : W.cell? ⟨B2, 0, none⟩ = some (.int .i64 now)) (hw : IsWatch W b h pat zs) (h0 : J [] W) :
    CallsIn Fence.wide n Try.prog 23 #[.func (.yield l) #[] #[], .pointer (some ⟨B1, 0, none⟩), .pointer (some ⟨B2, 0, none⟩)] W fun e W' => (∃ v, e = .returned v) ∧
      ((∃ ys, ys = upto (item pat now zs) zs.length ∧ J ys W') ∨ (∃ pre, (∃ k, k ≤ zs.length ∧ pre = upto (item pat now zs) k) ∧ Jx pre W')) := by
  have hlen := hw.few
  have g1 := hw.sl
  refine callsIn_of_wp Try.func23 rfl trivial ?_ rfl
  simp only [Try.ntmps23, List.size_toArray, List.length_cons, List.length_nil, Nat.reduceAdd, Nat.reduceSub, Array.replicate_succ, Array.replicate_zero, List.push_toArray, List.append_toArray, List.nil_append, List.cons_append]
  gi_wp2
  gi_loopw [13] (fun i wr => ∃ k : Nat, k ≤ zs.length ∧ i = .int .i64 k ∧ J (upto (item pat now zs) k) wr ∧ Kp n₀ B1 B2 W wr)
    (fun i _ => zs.length - (intOf i).toNat)
  case atStart => exact ⟨0, Nat.zero_le _, rfl, h0, Kp.refl _ _ _ _⟩
  case round =>
    obtain ⟨k, hk, rfl, hJs, hnx⟩ := hrel
    have hwr := hw.below hb hh hnx.below
    have c1 := hnx.c1 _ hB1
    have c2 := hnx.c2 _ hB2
    have c3 := hwr.sl
    have c4 := hwr.pat
    by_cases hlt : k < zs.length
    · have c5 := hwr.at' k hlt
      have hit : item pat now zs k = ((k : Int) + 1, decide (zs[k] ≤ now - pat)) := by simp [item, hlt]
      obtain ⟨fn, tmps, assign, body, hy, hR⟩ := hY _ (item pat now zs k) wr.drew (hJd _ _ hJs) (by rw [upto_length]; exact hlt)
      rw [hit] at hy
      dsimp only at hy
      have hit' := Lib.hid hit
      have hR2 := hR.mono (R' := fun e W' => ∃ bb, e = .returned (.bool bb) ∧ RPost J Jx (upto (item pat now zs) k ++ [item pat now zs k]) (Kp n₀ B1 B2) wr.drew bb W') (by
        rintro e W' (⟨rfl, h1, h2⟩ | ⟨rfl, h1⟩)
        · exact ⟨true, rfl, .inl ⟨rfl, h1, h2⟩⟩
        · exact ⟨false, rfl, .inr ⟨rfl, h1⟩⟩)
      have hR' := Lib.hid hR2
      clear hR2
      clear hw hwr hB1 hB2 g1 hit hR
      have hmix : Try.prog.follows .mixedOrders = true := by kernel_rfl
      have hadd : IntKind.i64.wrap ((k : Int) + 1) = (k : Int) + 1 := IntWalk.i64_in _ (by omega)
      have hsub : IntKind.i64.wrap (now - pat) = now - pat := IntWalk.i64_in _ (by omega)
      gi_wp2
      gi_region_with_o (refine hR'.out.mono ?_; rintro e W3 ⟨bb, rfl, hpo⟩)
      all_goals
        clear hadd hsub
        rcases hpo with ⟨rfl, hJ3, hk3⟩ | ⟨rfl, hJx3⟩
        · gi_wp2
          go_roundw
          case rel => exact ⟨k + 1, by omega, by simp, by rw [upto_succ]; exact hJ3, (hnx.trans (Kp.drew _ _ _ _)).trans hk3⟩
          case measure => simp [intOf]; omega
        · gi_wp2
          refine bodyPost_ret (results_none rfl _ _ _) rfl ?_
          exact ⟨⟨_, rfl⟩, .inr ⟨_, ⟨k + 1, by omega, (upto_succ _ _).symm⟩, hJx3⟩⟩
    · obtain rfl : k = zs.length := by omega
      gi_wp2
      go_end0
      exact ⟨⟨_, rfl⟩, .inl ⟨_, rfl, hJs⟩⟩
end Go.Proofs.Ytihkopdamgboiaa
