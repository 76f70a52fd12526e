/- Contracts of the small functions: slices.Index, slices.Contains, a watcher's Heard and Again. -/
import Derived.RangeFuncNested
import Derived.RangeFuncBound
import Derived.RangeFuncCalls
import Derived.RangeFuncLeaves
import Derived.Shelf.Abstract
import Derived.Shelf.RegionOpen
import Derived.WalkKit
import Derived.OwnWalkIn
import Derived.TacticsInMore
import Derived.LoopNIn
import Derived.LoopIn
import Derived.Lib.Hide
import Derived.Test.YtihkopdamgboiaaProg
namespace Go.Proofs.Ytihkopdamgboiaa
open Go.RowKit Go.Shelf
set_option linter.unusedVariables false
attribute [local go_sem] Oper.semAt_some

/-- The slice value sv holds the numbers zs, in a block below n₀; or it is nil and there are none. -/
def Ints (n₀ : Nat) (W : World) (sv : Value) (zs : List Int) : Prop :=
  (sv = .slice none 0 0 ∧ zs = []) ∨ (∃ b off cap, sv = .slice (some ⟨b, off, none⟩) zs.length cap ∧ b < n₀ ∧ ∀ j, j < zs.length → W.cell? ⟨b, off + j, none⟩ = some (.int .i64 (zs[j]?.getD 0))) ∨
  (∃ a cap, sv = .slice (some a) 0 cap ∧ zs = [])
theorem Ints.below {n₀ : Nat} {A B : World} (h : Below n₀ A B) {sv : Value} {zs : List Int} : Ints n₀ A sv zs → Ints n₀ B sv zs
  | .inl e => .inl e
  | .inr (.inl ⟨b, off, cap, e, hb, hc⟩) => .inr (.inl ⟨b, off, cap, e, hb, fun j hj => (h.cell (p := ⟨b, off + j, none⟩) hb).trans (hc j hj)⟩)
  | .inr (.inr h) => .inr (.inr h)
theorem Ints.mono {n₀ n₁ : Nat} {A : World} (h : n₀ ≤ n₁) {sv : Value} {zs : List Int} : Ints n₀ A sv zs → Ints n₁ A sv zs
  | .inl e => .inl e
  | .inr (.inl ⟨b, off, cap, e, hb, hc⟩) => .inr (.inl ⟨b, off, cap, e, by omega, hc⟩)
  | .inr (.inr h) => .inr (.inr h)

/-- The first place of v, or -1. -/
def ix : List Int → Int → Int
  | [], _ => -1
  | z :: zs, v => if v = z then 0 else (if ix zs v < 0 then -1 else ix zs v + 1)
theorem ix_neg (zs : List Int) (v : Int) : ix zs v < 0 ↔ v ∉ zs := by
  induction zs with
  | nil => simp [ix]
  | cons z zs ih =>
    unfold ix
    by_cases h : v = z
    · simp [h]
    · by_cases h2 : ix zs v < 0
      · simp [h, h2, ih.1 h2]
      · have : v ∈ zs := by
          by_cases hm : v ∈ zs
          · exact hm
          · exact absurd (ih.2 hm) h2
        simp [h, h2, this]; omega
theorem ix_hit (zs : List Int) (v : Int) (k : Nat) (hk : k < zs.length) (h : v ∉ zs.take k) (e : v = zs[k]?.getD 0) : ix zs v = k := by
  induction zs generalizing k with
  | nil => simp at hk
  | cons z zs ih =>
    cases k with
    | zero => simp at e; simp [ix, e]
    | succ k =>
      simp at h e hk
      have := ih k hk h.2 e
      unfold ix
      rw [if_neg h.1, this, if_neg (by omega)]; simp
theorem take_miss (zs : List Int) (v : Int) (k : Nat) (hk : k < zs.length) (h : v ∉ zs.take k) (e : ¬ v = zs[k]?.getD 0) : v ∉ zs.take (k + 1) := by
  rw [List.take_succ_eq_append_getElem hk]
  simp only [List.mem_append, List.mem_singleton, not_or]
  exact ⟨h, by simpa [hk] using e⟩

set_option maxHeartbeats 400000 in
theorem index_some (b off cap : Nat) (zs : List Int) (v : Int) (w : World) (hm : zs.length ≤ 9223372036854775807)
    (hc : ∀ j, j < zs.length → w.cell? ⟨b, off + j, none⟩ = some (.int .i64 (zs[j]?.getD 0))) :
    Calls Try.prog 22 #[.slice (some ⟨b, off, none⟩) zs.length cap, .int .i64 v] w fun e w' => e = .returned (.int .i64 (ix zs v)) ∧ w' = w := by
  go_enter Try.func22, Try.ntmps22
  go_wp2
  go_loop [8] (fun i => ∃ k : Nat, k ≤ zs.length ∧ i = .int .i64 k ∧ Hid (v ∉ zs.take k)) (fun i => zs.length - (intOf i).toNat)
  case atStart => exact ⟨0, Nat.zero_le _, rfl, by simp [Hid]⟩
  case round =>
    obtain ⟨k, hk, rfl, hh⟩ := hrel
    by_cases hlt : k < zs.length
    · have hcx := hc k hlt
      clear hc
      go_wp2
      · go_ret
        have ht : (v == zs[k]) = true := by assumption
        exact ⟨by rw [ix_hit zs v k hlt hh.out (by simpa [hlt] using ht)]; rfl, rfl⟩
      · go_round
        case rel =>
          have ht : (v == zs[k]) = false := by assumption
          exact ⟨k + 1, by omega, by go_num, take_miss zs v k hlt hh.out (by simpa [hlt] using ht)⟩
        case measure => simp [intOf]; omega
    · obtain rfl : k = zs.length := by omega
      clear hc
      go_wp2
      go_ret
      have h2 : ix zs v < 0 := (ix_neg zs v).2 (by simpa using hh.out)
      have h3 : ix zs v = -1 := by
        cases zs with
        | nil => rfl
        | cons z zs =>
          unfold ix at h2 ⊢
          split at h2
          · omega
          · rename_i hne
            rw [if_neg hne]
            split
            · rfl
            · rename_i h4; rw [if_neg h4] at h2; omega
      exact ⟨by rw [h3]; rfl, rfl⟩
set_option maxHeartbeats 400000 in
theorem index_nil (a : Option Addr) (cap : Nat) (v : Int) (w : World) : Calls Try.prog 22 #[.slice a 0 cap, .int .i64 v] w fun e w' => e = .returned (.int .i64 (-1)) ∧ w' = w := by
  go_enter Try.func22, Try.ntmps22
  go_wp2
  go_loop [8] (fun i => i = .int .i64 0) (fun _ => 0)
  case atStart => rfl
  case round =>
    subst hrel
    go_wp2
    go_ret
    exact ⟨rfl, rfl⟩
theorem index_any {n₀ : Nat} {W : World} {sv : Value} {zs : List Int} (v : Int) (hm : zs.length ≤ 9223372036854775807) (h : Ints n₀ W sv zs) :
    Calls Try.prog 22 #[sv, .int .i64 v] W fun e w' => e = .returned (.int .i64 (ix zs v)) ∧ W = w' := by
  rcases h with ⟨rfl, rfl⟩ | ⟨b, off, cap, rfl, hb, hc⟩ | ⟨a, cap, rfl, rfl⟩
  · exact (index_nil none 0 v W).mono fun e w' ⟨h1, h2⟩ => ⟨h1, h2.symm⟩
  · exact (index_some b off cap zs v W hm hc).mono fun e w' ⟨h1, h2⟩ => ⟨h1, h2.symm⟩
  · exact (index_nil _ cap v W).mono fun e w' ⟨h1, h2⟩ => ⟨h1, h2.symm⟩

/-- Is v among zs? (Not to be laid open by the walk.) -/
def hasB (zs : List Int) (v : Int) : Bool := decide (v ∈ zs)
theorem hasB_ix (zs : List Int) (v : Int) : hasB zs v = decide (0 ≤ ix zs v) := by
  have := ix_neg zs v
  unfold hasB
  by_cases h : v ∈ zs
  · have h2 : ¬ ix zs v < 0 := fun h3 => this.1 h3 h
    simp [h]; omega
  · have h2 := this.2 h
    simp [h]; omega

theorem contains_any {n₀ : Nat} {W : World} {sv : Value} {zs : List Int} (v : Int) (hm : zs.length ≤ 9223372036854775807) (h : Ints n₀ W sv zs) :
    Calls Try.prog 20 #[sv, .int .i64 v] W fun e w' => e = .returned (.bool (hasB zs v)) ∧ W = w' := by
  have hix := hasB_ix zs v
  rw [hix]
  clear hix
  have hI := Lib.hid h
  clear h
  go_enter Try.func20, Try.ntmps20
  go_wp2_with (go_at_call 22; refine (index_any v hm hI.out).mono ?_; rintro e w' ⟨rfl, rfl⟩)
  go_ret
  exact ⟨rfl, rfl⟩

/-- 'down': the function that Says makes. -/
theorem down_any {n₀ B : Nat} {W : World} {sv : Value} {zs : List Int} (v : Int) (hm : zs.length ≤ 9223372036854775807) (hc : W.cell? ⟨B, 0, none⟩ = some sv) (h : Ints n₀ W sv zs) :
    Calls Try.prog 19 #[.int .i64 v, .pointer (some ⟨B, 0, none⟩)] W fun e w' => e = .returned (.bool (hasB zs v)) ∧ W = w' := by
  have hI := Lib.hid h
  clear h
  go_enter Try.func19, Try.ntmps19
  go_wp2_with (go_at_call 20; refine (contains_any v hm hI.out).mono ?_; rintro e w' ⟨rfl, rfl⟩)
  go_ret
  exact ⟨rfl, rfl⟩

/-- A watcher lies at block b, its numbers at block h. -/
structure IsWatch (W : World) (b h : Nat) (pat : Int) (zs : List Int) : Prop where
  pat : W.cell? ⟨b, 0, none⟩ = some (.int .i64 pat)
  sl : W.cell? ⟨b, 1, none⟩ = some (.slice (some ⟨h, 0, none⟩) zs.length zs.length)
  at' : ∀ j, j < zs.length → W.cell? ⟨h, j, none⟩ = some (.int .i64 (zs[j]?.getD 0))
  free : ∀ j, j < zs.length → W.frozen? ⟨h, j, none⟩ = false
  ne : b ≠ h
  few : zs.length ≤ 5

/-- Heard, in mind. -/
def hearOk (zs : List Int) (store now : Int) : Bool := decide (1 ≤ store ∧ store ≤ zs.length ∧ (zs[(store - 1).toNat]?.getD 0) ≤ now)

theorem heard_no {W : World} {b h : Nat} {pat : Int} {zs : List Int} (hw : IsWatch W b h pat zs) (store now : Int) (hn : hearOk zs store now = false) :
    Calls Try.prog 9 #[.pointer (some ⟨b, 0, none⟩), .int .i64 store, .int .i64 now] W fun e w' => e = .returned (.int .i64 1) ∧ W = w' := by
  obtain ⟨h1, h2, h3, h4, h5, h6⟩ := hw
  unfold hearOk at hn
  by_cases c1 : store < 1
  · clear hn h3 h4
    go_enter Try.func9, Try.ntmps9
    go_wp2
    go_ret
    exact ⟨rfl, rfl⟩
  · by_cases c2 : (zs.length : Int) < store
    · clear hn h3 h4
      go_enter Try.func9, Try.ntmps9
      go_wp2
      go_ret
      exact ⟨rfl, rfl⟩
    · obtain ⟨k, rfl⟩ : ∃ k : Nat, store = (k : Int) + 1 := ⟨(store - 1).toNat, by omega⟩
      have hk : k < zs.length := by omega
      have e : ((k : Int) + 1 - 1).toNat = k := by omega
      rw [e] at hn
      have c3 : now < zs[k] := by simp at hn; have := hn (by omega) (by omega); simpa [hk] using this
      have hc := h3 k hk
      clear hn h3 h4 e
      go_enter Try.func9, Try.ntmps9
      go_wp2
      go_ret
      exact ⟨rfl, rfl⟩

theorem IsWatch.set {W : World} {b h : Nat} {pat : Int} {zs : List Int} (hw : IsWatch W b h pat zs) (k : Nat) (hk : k < zs.length) (now : Int) :
    IsWatch (W.setCell ⟨h, k, none⟩ (.int .i64 now)) b h pat (zs.set k now) where
  pat := by rw [World.cell?_setCell_other _ _ _ _ (by intro e; cases e; exact hw.ne rfl)]; exact hw.pat
  sl := by rw [World.cell?_setCell_other _ _ _ _ (by intro e; cases e; exact hw.ne rfl)]; simpa using hw.sl
  at' := fun j hj => by
    simp at hj
    by_cases e : j = k
    · subst e
      rw [World.cell?_setCell_same' _ _ _ (by rw [hw.at' j hj]; rfl)]
      simp [hj]
    · rw [World.cell?_setCell_other _ _ _ _ (by intro e'; cases e'; exact e rfl), hw.at' j hj]
      simp [List.getElem?_set_ne (fun e' => e e'.symm)]
  free := fun j hj => by rw [World.frozen?_setCell]; exact hw.free j (by simpa using hj)
  ne := hw.ne
  few := by simpa using hw.few
end Go.Proofs.Ytihkopdamgboiaa
