/- The plain law of DetectSaid: when what is said is done, nothing more is said. -/
import Derived.Test.YtihkopdamgboiaaE
namespace Go.Proofs.Ytihkopdamgboiaa
set_option linter.unusedVariables false

def applyC (after : List Int) (c : Int × Int) : List Int := if c.1 = 5 then after ++ [c.2] else after.filter fun x => decide (x ≠ c.2)
def applyAll (ds : List Int) (l : List (Int × Int)) : List Int := l.foldl applyC ds
theorem applyAll_snoc (ds : List Int) (l : List (Int × Int)) (c : Int × Int) : applyAll ds (l ++ [c]) = applyC (applyAll ds l) c := by simp [applyAll]
theorem applyC_len (l : List Int) (c : Int × Int) : (applyC l c).length ≤ l.length + 1 := by
  unfold applyC
  split
  · simp
  · have := List.length_filter_le (fun x => decide (x ≠ c.2)) l; omega
theorem applyAll_len (ds : List Int) (l : List (Int × Int)) : (applyAll ds l).length ≤ ds.length + l.length := by
  induction l generalizing ds with
  | nil => simp [applyAll]
  | cons c l ih =>
    have h1 := ih (applyC ds c)
    have h2 := applyC_len ds c
    simp only [applyAll, List.foldl_cons, List.length_cons] at h1 ⊢
    omega
theorem mem_step (l ds : List Int) (x : Int × Bool) (hx : (x.1 ∈ l) ↔ (x.1 ∈ ds)) (s : Int) : s ∈ applyAll l (cmd ds x) ↔ (if s = x.1 then x.2 = true else s ∈ l) := by
  unfold cmd hasB
  obtain ⟨st, sil⟩ := x
  by_cases hm : st ∈ ds
  · have hm' := hx.2 hm
    cases sil
    · simp [hm, applyAll, applyC]
      by_cases e : s = st
      · simp [e]
      · simp [e]
    · simp [hm, applyAll]
      by_cases e : s = st
      · simp [e]; exact hm'
      · simp [e]
  · have hm' : st ∉ l := fun h => hm (hx.1 h)
    cases sil
    · simp [hm, applyAll]
      by_cases e : s = st
      · simp [e]; exact hm'
      · simp [e]
    · simp [hm, applyAll, applyC]
      by_cases e : s = st
      · simp [e]
      · simp [e]
theorem mem_after (pat now : Int) (zs ds : List Int) (k : Nat) (s : Int) :
    s ∈ applyAll ds (cmds ds (upto (item pat now zs) k)) ↔ (if 1 ≤ s ∧ s ≤ k then (item pat now zs (s - 1).toNat).2 = true else s ∈ ds) := by
  induction k generalizing s with
  | zero =>
    rw [if_neg (by omega)]; simp [upto, cmds, applyAll]
  | succ k ih =>
    rw [upto_succ, cmds_snoc]
    have e : applyAll ds (cmds ds (upto (item pat now zs) k) ++ cmd ds (item pat now zs k)) = applyAll (applyAll ds (cmds ds (upto (item pat now zs) k))) (cmd ds (item pat now zs k)) := by simp [applyAll]
    have h1 : (item pat now zs k).1 = (k : Int) + 1 := rfl
    rw [e, mem_step _ _ _ (by rw [ih, h1, if_neg (by omega)])]
    by_cases hs : s = (k : Int) + 1
    · rw [if_pos (by rw [h1]; exact hs), if_pos (by omega)]
      have : (s - 1).toNat = k := by omega
      rw [this]
    · rw [if_neg (by rw [h1]; exact hs), ih]
      by_cases h2 : 1 ≤ s ∧ s ≤ (k : Int)
      · rw [if_pos h2, if_pos (by omega)]
      · rw [if_neg h2, if_neg (by omega)]
theorem said_plain (pat now : Int) (zs ds : List Int) : says pat now zs (applyAll ds (says pat now zs ds)) = [] := by
  unfold says
  have hall : ∀ k, k ≤ zs.length → cmds (applyAll ds (cmds ds (upto (item pat now zs) zs.length))) (upto (item pat now zs) k) = [] := by
    intro k
    induction k with
    | zero => intro _; simp [upto, cmds]
    | succ k ih =>
      intro hk
      rw [upto_succ, cmds_snoc, ih (by omega), List.nil_append]
      have h1 : (item pat now zs k).1 = (k : Int) + 1 := rfl
      have hm := mem_after pat now zs ds zs.length ((k : Int) + 1)
      have e1 : ((k : Int) + 1 - 1).toNat = k := by omega
      rw [if_pos (by omega), e1] at hm
      unfold cmd hasB
      rw [h1]
      cases hsil : (item pat now zs k).2
      · rw [hsil] at hm
        have hn : ¬ ((k : Int) + 1 ∈ applyAll ds (cmds ds (upto (item pat now zs) zs.length))) := fun h => Bool.false_ne_true (hm.1 h)
        rw [decide_eq_false hn]; rfl
      · rw [hsil] at hm
        rw [decide_eq_true (hm.2 rfl)]; rfl
  exact hall _ (Nat.le_refl _)
end Go.Proofs.Ytihkopdamgboiaa
