/- Contracts of a watcher's Heard, Again, New. -/
import Derived.Test.YtihkopdamgboiaaA
namespace Go.Proofs.Ytihkopdamgboiaa
open Go.RowKit Go.Shelf
set_option linter.unusedVariables false
attribute [local go_sem] Oper.semAt_some

theorem heard_yes {W : World} {b h : Nat} {pat : Int} {zs : List Int} (hw : IsWatch W b h pat zs) (k : Nat) (now : Int) (hk : k < zs.length) (hle : zs[k] ≤ now) :
    Calls Try.prog 9 #[.pointer (some ⟨b, 0, none⟩), .int .i64 ((k : Int) + 1), .int .i64 now] W fun e w' => e = .returned (.int .i64 0) ∧ W.setCell ⟨h, k, none⟩ (.int .i64 now) = w' := by
  obtain ⟨h1, h2, h3, h4, h5, h6⟩ := hw
  have hc := h3 k hk
  have hf := h4 k hk
  clear h3 h4
  go_enter Try.func9, Try.ntmps9
  go_wp2
  go_ret
  exact ⟨rfl, rfl⟩

/-- The world where the first k numbers have become 'now'. -/
def setN (W : World) (h : Nat) (now : Int) : Nat → World
  | 0 => W
  | k + 1 => (setN W h now k).setCell ⟨h, k, none⟩ (.int .i64 now)
def setL (zs : List Int) (now : Int) : Nat → List Int
  | 0 => zs
  | k + 1 => (setL zs now k).set k now
theorem setL_length (zs : List Int) (now : Int) (k : Nat) : (setL zs now k).length = zs.length := by
  induction k with
  | zero => rfl
  | succ k ih => simp [setL, ih]
theorem setL_all (zs : List Int) (now : Int) : setL zs now zs.length = List.replicate zs.length now := by
  have : ∀ k, k ≤ zs.length → setL zs now k = List.replicate k now ++ zs.drop k := by
    intro k
    induction k with
    | zero => intro _; rfl
    | succ k ih =>
      intro hk
      rw [setL, ih (by omega), List.set_append, if_neg (by simp), List.length_replicate, Nat.sub_self, List.drop_eq_getElem_cons (by omega), List.set_cons_zero, List.replicate_succ']
      simp
  rw [this _ (Nat.le_refl _)]; simp
theorem setN_watch {W : World} {b h : Nat} {pat : Int} {zs : List Int} (hw : IsWatch W b h pat zs) (now : Int) (k : Nat) (hk : k ≤ zs.length) : IsWatch (setN W h now k) b h pat (setL zs now k) := by
  induction k with
  | zero => exact hw
  | succ k ih => exact (ih (by omega)).set k (by rw [setL_length]; omega) now

set_option maxHeartbeats 400000 in
theorem again_yes {W : World} {b h : Nat} {pat : Int} {zs : List Int} (hw : IsWatch W b h pat zs) (now : Int) (h0 : 0 ≤ now) :
    Calls Try.prog 11 #[.pointer (some ⟨b, 0, none⟩), .int .i64 now] W fun e w' => e = .returned (.tuple #[]) ∧ setN W h now zs.length = w' := by
  have hlen := hw.few
  have g1 := hw.pat
  have g2 := hw.sl
  go_enter Try.func11, Try.ntmps11
  go_wp2
  go_loopw [16] (fun i wr => ∃ k : Nat, k ≤ zs.length ∧ i = .int .i64 k ∧ Hid (wr = setN W h now k)) (fun i _ => zs.length - (intOf i).toNat)
  case atStart => exact ⟨0, Nat.zero_le _, rfl, rfl⟩
  case round =>
    obtain ⟨k, hk, rfl, hh⟩ := hrel
    have hww := setN_watch hw now k hk
    rw [← hh.out] at hww
    have f1 := hww.sl
    rw [setL_length] at f1
    by_cases hlt : k < zs.length
    · have f2 := hww.at' k (by rw [setL_length]; exact hlt)
      have f3 := hww.free k (by rw [setL_length]; exact hlt)
      clear hww hw g1 g2
      go_wp2
      go_roundw
      case rel => exact ⟨k + 1, by omega, by go_num, by show _ = setN W h now (k + 1); rw [setN, hh.out]⟩
      case measure => simp [intOf]; omega
    · obtain rfl : k = zs.length := by omega
      clear hww hw g1 g2
      go_wp2
      go_end0
      exact ⟨rfl, hh.out.symm⟩

theorem again_nil {W : World} (now : Int) :
    Calls Try.prog 11 #[.pointer none, .int .i64 now] W fun e w' => e = .returned (.tuple #[]) ∧ W = w' := by
  go_enter Try.func11, Try.ntmps11
  go_wp2
  refine bodyPost_ret (results_none rfl _ _ _) rfl ?_
  exact ⟨rfl, rfl⟩
theorem again_no {W : World} {b : Nat} (now : Int) (h0 : now < 0) :
    Calls Try.prog 11 #[.pointer (some ⟨b, 0, none⟩), .int .i64 now] W fun e w' => e = .returned (.tuple #[]) ∧ W = w' := by
  go_enter Try.func11, Try.ntmps11
  go_wp2
  refine bodyPost_ret (results_none rfl _ _ _) rfl ?_
  exact ⟨rfl, rfl⟩

def newOk (stores patience now : Int) : Bool := decide (1 ≤ stores ∧ stores ≤ 5 ∧ 1 ≤ patience ∧ patience ≤ 100000 ∧ 0 ≤ now)

theorem new_no (W : World) (stores patience now : Int) (hn : newOk stores patience now = false) :
    Calls Try.prog 8 #[.int .i64 stores, .int .i64 patience, .int .i64 now] W fun e w' => e = .returned (.tuple #[.pointer none, .int .i64 1]) ∧ W = w' := by
  have hn' : stores < 1 ∨ 5 < stores ∨ patience < 1 ∨ 100000 < patience ∨ now < 0 := by simp [newOk] at hn; omega
  clear hn
  by_cases c1 : stores < 1
  · clear hn'; go_enter Try.func8, Try.ntmps8; go_wp2; go_ret2; exact ⟨rfl, rfl⟩
  by_cases c2 : 5 < stores
  · clear hn'; go_enter Try.func8, Try.ntmps8; go_wp2; go_ret2; exact ⟨rfl, rfl⟩
  by_cases c3 : patience < 1
  · clear hn'; go_enter Try.func8, Try.ntmps8; go_wp2; go_ret2; exact ⟨rfl, rfl⟩
  by_cases c4 : 100000 < patience
  · clear hn'; go_enter Try.func8, Try.ntmps8; go_wp2; go_ret2; exact ⟨rfl, rfl⟩
  have c5 : now < 0 := by omega
  clear hn'; go_enter Try.func8, Try.ntmps8; go_wp2; go_ret2; exact ⟨rfl, rfl⟩

theorem setN_below {W W1 : World} {B h : Nat} (now : Int) (hb : Below B W W1) (hh : B ≤ h) (k : Nat) : Below B W (setN W1 h now k) := by
  induction k with
  | zero => exact hb
  | succ k ih => exact ih.setCell (p := ⟨h, k, none⟩) hh _
theorem fresh_watch (W : World) (n : Nat) (patience : Int) (hn : n ≤ 5) :
    IsWatch ((W.alloc (.cells (Array.replicate n (.int .i64 0)) 3)).alloc (.cells #[.int .i64 patience, .slice (some ⟨W.heap.size, 0, none⟩) n n] 47)) (W.heap.size + 1) W.heap.size patience (List.replicate n 0) where
  pat := by rw [World.cell?_alloc_at _ _ _ _ (by simp)]; rfl
  sl := by rw [World.cell?_alloc_at _ _ _ _ (by simp)]; simp
  at' := fun j hj => by
    simp at hj
    rw [World.cell?_alloc_past _ _ _ (by simp), World.cell?_alloc_at _ _ _ _ rfl]
    simp [hj]
  free := fun j hj => by
    rw [World.frozen?_alloc_past _ _ _ (by simp), World.frozen?_alloc_at _ _ _ _ rfl]
  ne := by omega
  few := by simpa using hn

/-- A watcher that the call made: its numbers lie at the heap's old end. -/
theorem new_yes (W : World) (n : Nat) (patience now : Int) (h1 : 1 ≤ n) (h2 : n ≤ 5) (h3 : 1 ≤ patience) (h4 : patience ≤ 100000) (h5 : 0 ≤ now) :
    Calls Try.prog 8 #[.int .i64 n, .int .i64 patience, .int .i64 now] W fun e w' => ∃ b h, e = .returned (.tuple #[.pointer (some ⟨b, 0, none⟩), .int .i64 0]) ∧
      IsWatch w' b h patience (List.replicate n now) ∧ W.heap.size ≤ b ∧ W.heap.size ≤ h ∧ Below W.heap.size W w' := by
  have c : n = 1 ∨ n = 2 ∨ n = 3 ∨ n = 4 ∨ n = 5 := by omega
  have hmk : ∀ w : World, (Instr.makeSlice 23 (.int .i64 n) (.int .i64 n)).run Try.prog w = .ok (.slice (some ⟨w.heap.size, 0, none⟩) n n) (w.alloc (.cells (Array.replicate n (.int .i64 0)) 3)) := by
    rcases c with rfl | rfl | rfl | rfl | rfl <;> (intro w; kernel_rfl)
  clear c
  go_enter Try.func8, Try.ntmps8
  go_wp2_with (fail)
  refine (again_yes (fresh_watch W n patience h2) now h5).mono ?_
  rintro e w' ⟨rfl, rfl⟩
  have hb : Below W.heap.size W (setN ((W.alloc (.cells (Array.replicate n (.int .i64 0)) 3)).alloc (.cells #[.int .i64 patience, .slice (some ⟨W.heap.size, 0, none⟩) n n] 47)) W.heap.size now (List.replicate n (0 : Int)).length) :=
    setN_below now (((Below.refl _ W).alloc (Nat.le_refl _) _).alloc (by simp) _) (Nat.le_refl _) _
  have hw := setN_watch (fresh_watch W n patience h2) now _ (Nat.le_refl _)
  rw [setL_all] at hw
  have hw' := Lib.hid hw
  clear hw
  have hb' := Lib.hid hb
  clear hb
  clear hmk
  generalize (setN ((W.alloc (.cells (Array.replicate n (.int .i64 0)) 3)).alloc (.cells #[.int .i64 patience, .slice (some ⟨W.heap.size, 0, none⟩) n n] 47)) W.heap.size now (List.replicate n (0 : Int)).length) = W2 at hw' hb' ⊢
  go_wp2
  go_ret2
  exact ⟨W.heap.size + 1, W.heap.size, rfl, by have := hw'.out; simpa using this, by omega, by omega, hb'.out⟩
end Go.Proofs.Ytihkopdamgboiaa
