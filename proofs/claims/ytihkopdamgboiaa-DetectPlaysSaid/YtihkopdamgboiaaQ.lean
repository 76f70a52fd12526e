/- The reference's Silent and Says; commands. -/
import Derived.Test.YtihkopdamgboiaaP
namespace Go.Proofs.Ytihkopdamgboiaa
open Go.RowKit Go.Shelf
set_option linter.unusedVariables false
attribute [local go_sem] Oper.semAt_some

/-- Silent at any tick. -/
def silentA (pat now : Int) (zs : List Int) (store : Int) : Bool := decide (0 ≤ now) && silentB pat now zs store

set_option maxHeartbeats 1000000 in
theorem rsilent_any {W : World} {b h c : Nat} {pat : Int} {zs : List Int} (hw : IsRef W b h c pat zs) (store now : Int) (hp1 : 1 ≤ pat) (hp2 : pat ≤ 100000) (hn1 : now ≤ 9223372036854775807) :
    Calls Try.prog 16 #[.pointer (some ⟨b, 0, none⟩), .int .i64 store, .int .i64 now] W fun e w' => e = .returned (.bool (silentA pat now zs store)) ∧ Below W.heap.size W w' := by
  obtain ⟨h1, h2, h3, h4, h5, h6, h7⟩ := hw
  by_cases c0 : now < 0
  · have hr : silentA pat now zs store = false := by simp [silentA]; omega
    rw [hr]
    have d0 : decide (0 ≤ now) = false := by simpa using c0
    clear h3 h4 hr
    go_enter Try.func16, Try.ntmps16
    go_wp2
    go_quiet (fail)
    go_wp2
    go_ret
    exact ⟨rfl, below_drewN (Below.refl _ _) _⟩
  · have d0 : decide (0 ≤ now) = true := by simp; omega
    have c0' : 0 ≤ now := by omega
    clear c0
    by_cases c1 : 1 ≤ store
    · have d1 : decide (1 ≤ store) = true := by simpa using c1
      by_cases c2 : store ≤ zs.length
      · have d2 : decide (store ≤ (zs.length : Int)) = true := by simpa using c2
        obtain ⟨k, rfl⟩ : ∃ k : Nat, store = (k : Int) + 1 := ⟨(store - 1).toNat, by omega⟩
        have hk : k < zs.length := by omega
        have e : ((k : Int) + 1 - 1).toNat = k := by omega
        have hr : silentA pat now zs ((k : Int) + 1) = decide (zs[k] ≤ now - pat) := by
          simp only [silentA, silentB, e, d0, Bool.true_and]
          rw [decide_eq_decide]
          simp [hk]; omega
        rw [hr]
        have hc := h3 k hk
        have hsub : IntKind.i64.wrap (now - pat) = now - pat := IntWalk.i64_in _ (by omega)
        have hsb2 : wrap64 (now - pat) = now - pat := IntWalk.wrap64_in _ (by omega)
        clear h3 h4 hr
        go_enter Try.func16, Try.ntmps16
        go_wp2
        go_quiet (fail)
        clear hsub hsb2
        go_wp2
        go_ret
        exact ⟨rfl, below_drewN (Below.refl _ _) _⟩
      · have d2 : decide (store ≤ (zs.length : Int)) = false := by simpa using c2
        have hr : silentA pat now zs store = false := by simp [silentA, silentB]; omega
        rw [hr]
        clear h3 h4 hr
        go_enter Try.func16, Try.ntmps16
        go_wp2
        go_quiet (fail)
        go_wp2
        go_ret
        exact ⟨rfl, below_drewN (Below.refl _ _) _⟩
    · have d1 : decide (1 ≤ store) = false := by simpa using c1
      have hr : silentA pat now zs store = false := by simp [silentA, silentB]; omega
      rw [hr]
      clear h3 h4 hr
      go_enter Try.func16, Try.ntmps16
      go_wp2
      go_quiet (fail)
      go_wp2
      go_ret
      exact ⟨rfl, below_drewN (Below.refl _ _) _⟩

/-- The slice value v owns the commands l, in a block from B on. -/
def OwnCmds (B : Nat) (W : World) (v : Value) (l : List (Int × Int)) : Prop := W.ownsRow B 36 4 v l.length (ccells l)
theorem owncmds_below {B B' : Nat} {W W' : World} {v : Value} {l : List (Int × Int)} (h : OwnCmds B W v l) (hW : Below B' W W') (hs : W.heap.size ≤ B') : OwnCmds B W' v l := by
  refine ⟨h.1, ?_⟩
  rcases h.2 with h0 | ⟨g, cap, cur, e, hb, hh, r⟩
  · exact .inl h0
  · exact .inr ⟨g, cap, cur, e, hb, (hW.block g (by have := (Array.getElem?_eq_some_iff.1 hh).1; omega)).trans hh, r⟩
theorem owncmds_nil {B : Nat} {W : World} : OwnCmds B W (.slice none 0 0) [] := ⟨rfl, .inl ⟨rfl, rfl⟩⟩
/-- An append of one command, which lies in a new block. -/
theorem wpList_append_cmd {w : World} {ops : Array Oper} {rest : List Oper} {o : Oper} {a : Act} {Q : Exit → Act → World → Prop} (hgd : o.guard = none) (s x : Operand)
    (ho : o.op = .call { callee := .builtin .append, args := #[s, x], argTypes := #[33, 33] }) {B : Nat} {v : Value} {l : List (Int × Int)} (hs : a.eval s = v) (hown : OwnCmds B w v l) (y : Int × Int)
    (hx : a.eval x = .slice (some ⟨w.heap.size, 0, none⟩) 1 1) (hl : l.length ≤ 100000) (hb : B ≤ w.heap.size)
    (h : ∀ v' w', OwnCmds B w' v' (l ++ [y]) → Below B w w' → v' ≠ .slice none 0 0 → wpList Try.prog ops Q rest (a.put o.dst v') w') : wpList Try.prog ops Q (o :: rest) a (w.alloc (.cells #[.int .u8 y.1, .int .i64 0, .int .i64 y.2, .int .i64 0] 36)) := by
  obtain ⟨i0, hi, hz0, hz1, hz2⟩ := info_parts Try.info36
  have hown' : OwnCmds B (w.alloc (.cells #[.int .u8 y.1, .int .i64 0, .int .i64 y.2, .int .i64 0] 36)) v l := owncmds_below hown ((Below.refl w.heap.size w).alloc (Nat.le_refl _) _) (Nat.le_refl _)
  refine wpList_append_own _ hgd s x 33 ho B 36 i0 (.agg #[.int .u8 0, .int .i64 0, .int .i64 0, .int .i64 0]) 4 32 Try.underlying33 hi hz0 hz1 hz2 rfl (by decide) v _ _ hs hown' ⟨w.heap.size, 0, none⟩ 1 1 [.int .u8 y.1, .int .i64 0, .int .i64 y.2, .int .i64 0] hx rfl (cell_four_new _ _ _ _ _ _) (by simp [Value.oneCell']) (by unfold maxLen; omega) (by omega) (by simp; omega) ?_
  intro v' w' h1 h2 h3
  refine h v' w' ?_ ?_ ?_
  · show World.ownsRow _ _ _ _ _ _ _
    rw [ccells_app]; simpa [ccells, ccell] using h1
  · refine ((Below.refl B w).alloc hb _).grown h2 (by simp; omega) (fun k e => ?_)
    rcases hown'.2 with ⟨rfl, _⟩ | ⟨g, cap, cur, rfl, h1, _⟩
    · simp [Value.ownBlock] at e
    · simp [Value.ownBlock] at e; omega
  · intro e
    have := h3.1 e
    omega
end Go.Proofs.Ytihkopdamgboiaa
