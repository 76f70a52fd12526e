import Derived.Test.YtfojoloiahhphaaGreatDoorSimDraw3
/- Sim, part 30: frames of 256 slots, and the closures that read and write one slot. (Printed by genx1.py.) -/
namespace Sim
open Go

structure S16 (α : Type) where
  (a0 a1 a2 a3 a4 a5 a6 a7 a8 a9 a10 a11 a12 a13 a14 a15 : α)
section
variable {α β : Type}
def S16.fields (s : S16 α) : List α := [s.a0, s.a1, s.a2, s.a3, s.a4, s.a5, s.a6, s.a7, s.a8, s.a9, s.a10, s.a11, s.a12, s.a13, s.a14, s.a15]
def S16.all (x : α) : S16 α := ⟨x, x, x, x, x, x, x, x, x, x, x, x, x, x, x, x⟩
/-- The closures that read a field. -/
noncomputable def getL (α : Type) : List (S16 α → α) := [(fun s => S16.rec (motive := fun _ => α) (fun a _ _ _ _ _ _ _ _ _ _ _ _ _ _ _ => a) s),
  (fun s => S16.rec (motive := fun _ => α) (fun _ a _ _ _ _ _ _ _ _ _ _ _ _ _ _ => a) s),
  (fun s => S16.rec (motive := fun _ => α) (fun _ _ a _ _ _ _ _ _ _ _ _ _ _ _ _ => a) s),
  (fun s => S16.rec (motive := fun _ => α) (fun _ _ _ a _ _ _ _ _ _ _ _ _ _ _ _ => a) s),
  (fun s => S16.rec (motive := fun _ => α) (fun _ _ _ _ a _ _ _ _ _ _ _ _ _ _ _ => a) s),
  (fun s => S16.rec (motive := fun _ => α) (fun _ _ _ _ _ a _ _ _ _ _ _ _ _ _ _ => a) s),
  (fun s => S16.rec (motive := fun _ => α) (fun _ _ _ _ _ _ a _ _ _ _ _ _ _ _ _ => a) s),
  (fun s => S16.rec (motive := fun _ => α) (fun _ _ _ _ _ _ _ a _ _ _ _ _ _ _ _ => a) s),
  (fun s => S16.rec (motive := fun _ => α) (fun _ _ _ _ _ _ _ _ a _ _ _ _ _ _ _ => a) s),
  (fun s => S16.rec (motive := fun _ => α) (fun _ _ _ _ _ _ _ _ _ a _ _ _ _ _ _ => a) s),
  (fun s => S16.rec (motive := fun _ => α) (fun _ _ _ _ _ _ _ _ _ _ a _ _ _ _ _ => a) s),
  (fun s => S16.rec (motive := fun _ => α) (fun _ _ _ _ _ _ _ _ _ _ _ a _ _ _ _ => a) s),
  (fun s => S16.rec (motive := fun _ => α) (fun _ _ _ _ _ _ _ _ _ _ _ _ a _ _ _ => a) s),
  (fun s => S16.rec (motive := fun _ => α) (fun _ _ _ _ _ _ _ _ _ _ _ _ _ a _ _ => a) s),
  (fun s => S16.rec (motive := fun _ => α) (fun _ _ _ _ _ _ _ _ _ _ _ _ _ _ a _ => a) s),
  (fun s => S16.rec (motive := fun _ => α) (fun _ _ _ _ _ _ _ _ _ _ _ _ _ _ _ a => a) s)]
/-- The closures that turn a field. -/
noncomputable def modL (α R : Type) : List (S16 α → (α → (α → R) → R) → (S16 α → R) → R) := [(fun s h k => S16.rec (motive := fun _ => (α → (α → R) → R) → (S16 α → R) → R) (fun a0 a1 a2 a3 a4 a5 a6 a7 a8 a9 a10 a11 a12 a13 a14 a15 h k => h a0 fun x => k ⟨x, a1, a2, a3, a4, a5, a6, a7, a8, a9, a10, a11, a12, a13, a14, a15⟩) s h k),
  (fun s h k => S16.rec (motive := fun _ => (α → (α → R) → R) → (S16 α → R) → R) (fun a0 a1 a2 a3 a4 a5 a6 a7 a8 a9 a10 a11 a12 a13 a14 a15 h k => h a1 fun x => k ⟨a0, x, a2, a3, a4, a5, a6, a7, a8, a9, a10, a11, a12, a13, a14, a15⟩) s h k),
  (fun s h k => S16.rec (motive := fun _ => (α → (α → R) → R) → (S16 α → R) → R) (fun a0 a1 a2 a3 a4 a5 a6 a7 a8 a9 a10 a11 a12 a13 a14 a15 h k => h a2 fun x => k ⟨a0, a1, x, a3, a4, a5, a6, a7, a8, a9, a10, a11, a12, a13, a14, a15⟩) s h k),
  (fun s h k => S16.rec (motive := fun _ => (α → (α → R) → R) → (S16 α → R) → R) (fun a0 a1 a2 a3 a4 a5 a6 a7 a8 a9 a10 a11 a12 a13 a14 a15 h k => h a3 fun x => k ⟨a0, a1, a2, x, a4, a5, a6, a7, a8, a9, a10, a11, a12, a13, a14, a15⟩) s h k),
  (fun s h k => S16.rec (motive := fun _ => (α → (α → R) → R) → (S16 α → R) → R) (fun a0 a1 a2 a3 a4 a5 a6 a7 a8 a9 a10 a11 a12 a13 a14 a15 h k => h a4 fun x => k ⟨a0, a1, a2, a3, x, a5, a6, a7, a8, a9, a10, a11, a12, a13, a14, a15⟩) s h k),
  (fun s h k => S16.rec (motive := fun _ => (α → (α → R) → R) → (S16 α → R) → R) (fun a0 a1 a2 a3 a4 a5 a6 a7 a8 a9 a10 a11 a12 a13 a14 a15 h k => h a5 fun x => k ⟨a0, a1, a2, a3, a4, x, a6, a7, a8, a9, a10, a11, a12, a13, a14, a15⟩) s h k),
  (fun s h k => S16.rec (motive := fun _ => (α → (α → R) → R) → (S16 α → R) → R) (fun a0 a1 a2 a3 a4 a5 a6 a7 a8 a9 a10 a11 a12 a13 a14 a15 h k => h a6 fun x => k ⟨a0, a1, a2, a3, a4, a5, x, a7, a8, a9, a10, a11, a12, a13, a14, a15⟩) s h k),
  (fun s h k => S16.rec (motive := fun _ => (α → (α → R) → R) → (S16 α → R) → R) (fun a0 a1 a2 a3 a4 a5 a6 a7 a8 a9 a10 a11 a12 a13 a14 a15 h k => h a7 fun x => k ⟨a0, a1, a2, a3, a4, a5, a6, x, a8, a9, a10, a11, a12, a13, a14, a15⟩) s h k),
  (fun s h k => S16.rec (motive := fun _ => (α → (α → R) → R) → (S16 α → R) → R) (fun a0 a1 a2 a3 a4 a5 a6 a7 a8 a9 a10 a11 a12 a13 a14 a15 h k => h a8 fun x => k ⟨a0, a1, a2, a3, a4, a5, a6, a7, x, a9, a10, a11, a12, a13, a14, a15⟩) s h k),
  (fun s h k => S16.rec (motive := fun _ => (α → (α → R) → R) → (S16 α → R) → R) (fun a0 a1 a2 a3 a4 a5 a6 a7 a8 a9 a10 a11 a12 a13 a14 a15 h k => h a9 fun x => k ⟨a0, a1, a2, a3, a4, a5, a6, a7, a8, x, a10, a11, a12, a13, a14, a15⟩) s h k),
  (fun s h k => S16.rec (motive := fun _ => (α → (α → R) → R) → (S16 α → R) → R) (fun a0 a1 a2 a3 a4 a5 a6 a7 a8 a9 a10 a11 a12 a13 a14 a15 h k => h a10 fun x => k ⟨a0, a1, a2, a3, a4, a5, a6, a7, a8, a9, x, a11, a12, a13, a14, a15⟩) s h k),
  (fun s h k => S16.rec (motive := fun _ => (α → (α → R) → R) → (S16 α → R) → R) (fun a0 a1 a2 a3 a4 a5 a6 a7 a8 a9 a10 a11 a12 a13 a14 a15 h k => h a11 fun x => k ⟨a0, a1, a2, a3, a4, a5, a6, a7, a8, a9, a10, x, a12, a13, a14, a15⟩) s h k),
  (fun s h k => S16.rec (motive := fun _ => (α → (α → R) → R) → (S16 α → R) → R) (fun a0 a1 a2 a3 a4 a5 a6 a7 a8 a9 a10 a11 a12 a13 a14 a15 h k => h a12 fun x => k ⟨a0, a1, a2, a3, a4, a5, a6, a7, a8, a9, a10, a11, x, a13, a14, a15⟩) s h k),
  (fun s h k => S16.rec (motive := fun _ => (α → (α → R) → R) → (S16 α → R) → R) (fun a0 a1 a2 a3 a4 a5 a6 a7 a8 a9 a10 a11 a12 a13 a14 a15 h k => h a13 fun x => k ⟨a0, a1, a2, a3, a4, a5, a6, a7, a8, a9, a10, a11, a12, x, a14, a15⟩) s h k),
  (fun s h k => S16.rec (motive := fun _ => (α → (α → R) → R) → (S16 α → R) → R) (fun a0 a1 a2 a3 a4 a5 a6 a7 a8 a9 a10 a11 a12 a13 a14 a15 h k => h a14 fun x => k ⟨a0, a1, a2, a3, a4, a5, a6, a7, a8, a9, a10, a11, a12, a13, x, a15⟩) s h k),
  (fun s h k => S16.rec (motive := fun _ => (α → (α → R) → R) → (S16 α → R) → R) (fun a0 a1 a2 a3 a4 a5 a6 a7 a8 a9 a10 a11 a12 a13 a14 a15 h k => h a15 fun x => k ⟨a0, a1, a2, a3, a4, a5, a6, a7, a8, a9, a10, a11, a12, a13, a14, x⟩) s h k)]
def S16.set (s : S16 α) (i : Nat) (x : α) : S16 α := match i with | 0 => ⟨x, s.a1, s.a2, s.a3, s.a4, s.a5, s.a6, s.a7, s.a8, s.a9, s.a10, s.a11, s.a12, s.a13, s.a14, s.a15⟩ | 1 => ⟨s.a0, x, s.a2, s.a3, s.a4, s.a5, s.a6, s.a7, s.a8, s.a9, s.a10, s.a11, s.a12, s.a13, s.a14, s.a15⟩ | 2 => ⟨s.a0, s.a1, x, s.a3, s.a4, s.a5, s.a6, s.a7, s.a8, s.a9, s.a10, s.a11, s.a12, s.a13, s.a14, s.a15⟩ | 3 => ⟨s.a0, s.a1, s.a2, x, s.a4, s.a5, s.a6, s.a7, s.a8, s.a9, s.a10, s.a11, s.a12, s.a13, s.a14, s.a15⟩ | 4 => ⟨s.a0, s.a1, s.a2, s.a3, x, s.a5, s.a6, s.a7, s.a8, s.a9, s.a10, s.a11, s.a12, s.a13, s.a14, s.a15⟩ | 5 => ⟨s.a0, s.a1, s.a2, s.a3, s.a4, x, s.a6, s.a7, s.a8, s.a9, s.a10, s.a11, s.a12, s.a13, s.a14, s.a15⟩ | 6 => ⟨s.a0, s.a1, s.a2, s.a3, s.a4, s.a5, x, s.a7, s.a8, s.a9, s.a10, s.a11, s.a12, s.a13, s.a14, s.a15⟩ | 7 => ⟨s.a0, s.a1, s.a2, s.a3, s.a4, s.a5, s.a6, x, s.a8, s.a9, s.a10, s.a11, s.a12, s.a13, s.a14, s.a15⟩ | 8 => ⟨s.a0, s.a1, s.a2, s.a3, s.a4, s.a5, s.a6, s.a7, x, s.a9, s.a10, s.a11, s.a12, s.a13, s.a14, s.a15⟩ | 9 => ⟨s.a0, s.a1, s.a2, s.a3, s.a4, s.a5, s.a6, s.a7, s.a8, x, s.a10, s.a11, s.a12, s.a13, s.a14, s.a15⟩ | 10 => ⟨s.a0, s.a1, s.a2, s.a3, s.a4, s.a5, s.a6, s.a7, s.a8, s.a9, x, s.a11, s.a12, s.a13, s.a14, s.a15⟩ | 11 => ⟨s.a0, s.a1, s.a2, s.a3, s.a4, s.a5, s.a6, s.a7, s.a8, s.a9, s.a10, x, s.a12, s.a13, s.a14, s.a15⟩ | 12 => ⟨s.a0, s.a1, s.a2, s.a3, s.a4, s.a5, s.a6, s.a7, s.a8, s.a9, s.a10, s.a11, x, s.a13, s.a14, s.a15⟩ | 13 => ⟨s.a0, s.a1, s.a2, s.a3, s.a4, s.a5, s.a6, s.a7, s.a8, s.a9, s.a10, s.a11, s.a12, x, s.a14, s.a15⟩ | 14 => ⟨s.a0, s.a1, s.a2, s.a3, s.a4, s.a5, s.a6, s.a7, s.a8, s.a9, s.a10, s.a11, s.a12, s.a13, x, s.a15⟩ | 15 => ⟨s.a0, s.a1, s.a2, s.a3, s.a4, s.a5, s.a6, s.a7, s.a8, s.a9, s.a10, s.a11, s.a12, s.a13, s.a14, x⟩ | _ => s
theorem S16.fields_len (s : S16 α) : s.fields.length = 16 := rfl
theorem S16.fields_set (s : S16 α) (i : Nat) (x : α) : (s.set i x).fields = s.fields.set i x := by
  match i with
  | 0 => rfl
  | 1 => rfl
  | 2 => rfl
  | 3 => rfl
  | 4 => rfl
  | 5 => rfl
  | 6 => rfl
  | 7 => rfl
  | 8 => rfl
  | 9 => rfl
  | 10 => rfl
  | 11 => rfl
  | 12 => rfl
  | 13 => rfl
  | 14 => rfl
  | 15 => rfl
  | n + 16 => rw [List.set_eq_of_length_le (by rw [S16.fields_len]; omega)]; rfl
theorem getL_spec (i : Nat) (hi : i < 16) (d : S16 α → α) (s : S16 α) : some ((getL α).getD i d s) = s.fields[i]? := by
  match i, hi with
  | 0, _ => rfl
  | 1, _ => rfl
  | 2, _ => rfl
  | 3, _ => rfl
  | 4, _ => rfl
  | 5, _ => rfl
  | 6, _ => rfl
  | 7, _ => rfl
  | 8, _ => rfl
  | 9, _ => rfl
  | 10, _ => rfl
  | 11, _ => rfl
  | 12, _ => rfl
  | 13, _ => rfl
  | 14, _ => rfl
  | 15, _ => rfl
  | n + 16, hi => exact absurd hi (by omega)
theorem modL_spec {R : Type} (i : Nat) (hi : i < 16) (d : S16 α → (α → (α → R) → R) → (S16 α → R) → R) (s : S16 α) (x : α) (h : α → (α → R) → R) (k : S16 α → R)
    (hh : ∀ k, h ((getL α).getD i (fun s => s.a0) s) k = k x) : (modL α R).getD i d s h k = k (s.set i x) := by
  match i, hi with
  | 0, _ => exact hh _
  | 1, _ => exact hh _
  | 2, _ => exact hh _
  | 3, _ => exact hh _
  | 4, _ => exact hh _
  | 5, _ => exact hh _
  | 6, _ => exact hh _
  | 7, _ => exact hh _
  | 8, _ => exact hh _
  | 9, _ => exact hh _
  | 10, _ => exact hh _
  | 11, _ => exact hh _
  | 12, _ => exact hh _
  | 13, _ => exact hh _
  | 14, _ => exact hh _
  | 15, _ => exact hh _
  | n + 16, hi => exact absurd hi (by omega)
end

abbrev Fx := S16 (S16 CV)
noncomputable def Fx.nil : Fx := S16.all (S16.all .undef)
def xget (i : Nat) (f : Fx) : CV := match f.fields[i / 16]? with | some g => (g.fields[i % 16]?).getD .undef | none => .undef
def xput (i : Nat) (f : Fx) (v : CV) : Fx := match f.fields[i / 16]? with | some g => f.set (i / 16) (g.set (i % 16) v) | none => f
theorem xget_nil (i : Nat) : xget i Fx.nil = .undef := by
  have h : ∀ (α : Type) (x : α) (i : Nat), (S16.all x).fields[i]? = if i < 16 then some x else none := by
    intro α x i
    match i with
    | 0 => rfl
    | 1 => rfl
    | 2 => rfl
    | 3 => rfl
    | 4 => rfl
    | 5 => rfl
    | 6 => rfl
    | 7 => rfl
    | 8 => rfl
    | 9 => rfl
    | 10 => rfl
    | 11 => rfl
    | 12 => rfl
    | 13 => rfl
    | 14 => rfl
    | 15 => rfl
    | n + 16 => rw [if_neg (by omega)]; exact List.getElem?_eq_none (by rw [S16.fields_len]; omega)
  unfold xget Fx.nil
  rw [h]
  split
  · rename_i g hg
    split at hg
    · cases hg; rw [h]; split <;> rfl
    · cases hg
  · rfl
theorem xget_put_same {i : Nat} (hi : i < 256) (f : Fx) (v : CV) : xget i (xput i f v) = v := by
  have h1 : i / 16 < 16 := by omega
  have h2 : i % 16 < 16 := by omega
  unfold xput
  have e1 : f.fields[i / 16]? = some (f.fields[i / 16]'(by rw [S16.fields_len]; exact h1)) := by simp
  rw [e1]
  unfold xget
  dsimp only
  rw [S16.fields_set, List.getElem?_set_self (by rw [S16.fields_len]; exact h1)]
  dsimp only
  rw [S16.fields_set, List.getElem?_set_self (by rw [S16.fields_len]; exact h2)]
  rfl
theorem xget_put_ne {i j : Nat} (f : Fx) (v : CV) (h : j ≠ i) : xget j (xput i f v) = xget j f := by
  unfold xput
  split
  · rename_i g hg
    unfold xget
    rw [S16.fields_set]
    by_cases e : j / 16 = i / 16
    · rw [e, hg, List.getElem?_set_self (List.getElem?_eq_some_iff.1 hg).1]
      dsimp only
      rw [S16.fields_set, List.getElem?_set_ne (fun e2 => h (by omega))]
    · rw [List.getElem?_set_ne (fun e2 => e e2.symm)]
  · rfl

/-- The n-th of a list, handed on as it stands. -/
noncomputable def nthK {α β : Type} (l : List α) : Nat → (α → β) → β → β :=
  List.rec (motive := fun _ => Nat → (α → β) → β → β) (fun _ _ d => d) (fun x _ ih n k d => Nat.rec (motive := fun _ => β) (k x) (fun m _ => ih m k d) n) l
theorem nthK_eq {α β : Type} : ∀ (l : List α) (n : Nat) (k : α → β) (d : β), nthK l n k d = match l[n]? with | some x => k x | none => d := by
  intro l
  induction l with
  | nil => intro n k d; simp; rfl
  | cons x l ih => intro n k d; cases n with
    | zero => rfl
    | succ n => simp only [List.getElem?_cons_succ]; rw [← ih]; rfl
noncomputable def xgetK {β : Type} (i : Nat) (k : (Fx → CV) → β) (bad : β) : β :=
  nthK (getL (S16 CV)) (Nat.div i 16) (fun ga => nthK (getL CV) (Nat.mod i 16) (fun gb => k fun f => gb (ga f)) bad) bad
noncomputable def xputK {R β : Type} (i : Nat) (k : (Fx → CV → (Fx → R) → R) → β) (bad : β) : β :=
  nthK (modL (S16 CV) R) (Nat.div i 16) (fun ma => nthK (modL CV R) (Nat.mod i 16) (fun mb => k fun f v kk => ma f (fun s kk => mb s (fun _ kk => kk v) kk) kk) bad) bad
theorem getL_len (α : Type) : (getL α).length = 16 := rfl
theorem modL_len (α R : Type) : (modL α R).length = 16 := rfl
/-- A closure that reads slot i. -/
def Reads (i : Nat) (g : Fx → CV) : Prop := ∀ f, g f = xget i f
def Puts {R : Type} (i : Nat) (p : Fx → CV → (Fx → R) → R) : Prop := ∀ f v k, p f v k = k (xput i f v)
theorem xgetK_eq {β : Type} (i : Nat) (k : (Fx → CV) → β) (bad : β) : (i < 256 ∧ ∃ g, Reads i g ∧ xgetK i k bad = k g) ∨ (¬ i < 256 ∧ xgetK i k bad = bad) := by
  unfold xgetK
  rw [nthK_eq]
  have e1 : Nat.div i 16 = i / 16 := rfl
  have e2 : Nat.mod i 16 = i % 16 := rfl
  rw [e1]
  have h2 : i % 16 < 16 := by omega
  by_cases hi : i < 256
  · have h1 : i / 16 < 16 := by omega
    left
    refine ⟨hi, ?_⟩
    have g1 : (getL (S16 CV))[i / 16]? = some ((getL (S16 CV)).getD (i / 16) fun s => s.a0) := by rw [List.getD_eq_getElem?_getD, List.getElem?_eq_getElem (by rw [getL_len]; exact h1)]; rfl
    have g2 : (getL CV)[i % 16]? = some ((getL CV).getD (i % 16) fun s => s.a0) := by rw [List.getD_eq_getElem?_getD, List.getElem?_eq_getElem (by rw [getL_len]; exact h2)]; rfl
    rw [g1]
    dsimp only
    rw [nthK_eq, e2, g2]
    refine ⟨_, ?_, rfl⟩
    intro f
    unfold xget
    rw [← getL_spec (i / 16) h1 (fun s => s.a0) f]
    dsimp only
    rw [← getL_spec (i % 16) h2 (fun s => s.a0) _]
    rfl
  · right
    refine ⟨hi, ?_⟩
    rw [List.getElem?_eq_none (by rw [getL_len]; omega)]
theorem xputK_eq {R β : Type} (i : Nat) (k : (Fx → CV → (Fx → R) → R) → β) (bad : β) : (i < 256 ∧ ∃ p, Puts i p ∧ xputK i k bad = k p) ∨ (¬ i < 256 ∧ xputK i k bad = bad) := by
  unfold xputK
  rw [nthK_eq]
  have e1 : Nat.div i 16 = i / 16 := rfl
  have e2 : Nat.mod i 16 = i % 16 := rfl
  rw [e1]
  have h2 : i % 16 < 16 := by omega
  by_cases hi : i < 256
  · have h1 : i / 16 < 16 := by omega
    left
    refine ⟨hi, ?_⟩
    have g1 : (modL (S16 CV) R)[i / 16]? = some ((modL (S16 CV) R).getD (i / 16) fun s _ k => k s) := by rw [List.getD_eq_getElem?_getD, List.getElem?_eq_getElem (by rw [modL_len]; exact h1)]; rfl
    have g2 : (modL CV R)[i % 16]? = some ((modL CV R).getD (i % 16) fun s _ k => k s) := by rw [List.getD_eq_getElem?_getD, List.getElem?_eq_getElem (by rw [modL_len]; exact h2)]; rfl
    rw [g1]
    dsimp only
    rw [nthK_eq, e2, g2]
    refine ⟨_, ?_, rfl⟩
    intro f v kk
    have hg := getL_spec (i / 16) h1 (fun s => s.a0) f
    unfold xput
    rw [← hg]
    dsimp only
    exact modL_spec (i / 16) h1 _ f _ _ kk fun k' => modL_spec (i % 16) h2 _ _ v _ k' fun k'' => rfl
  · right
    refine ⟨hi, ?_⟩
    rw [List.getElem?_eq_none (by rw [modL_len]; omega)]

/-- A frame of closures and a frame of the elder kind. -/
def XR (f : Fx) (fr : Fr) : Prop := ∀ i, i < 256 → xget i f = fget fr (Bp.enc i)
theorem XR.nil : XR Fx.nil .nil := fun i _ => by rw [xget_nil]; unfold fget; rw [show (PT.nil : Fr).get (Bp.enc i) = none from PT.get_nil _]
theorem XR.put {f : Fx} {fr : Fr} (h : XR f fr) {i : Nat} (hi : i < 256) (v : CV) : XR (xput i f v) (fr.put (Bp.enc i) (some v)) := fun j hj => by
  by_cases e : j = i
  · subst e; rw [xget_put_same hi, fget_put_same]
  · rw [xget_put_ne f v e, fget_put_ne _ _ _ _ (fun e2 => e (Bp.enc_inj e2))]; exact h j hj
end Sim
