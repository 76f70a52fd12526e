/- Contracts of the reference's watcher. -/
import Derived.Laws.Rows
import Derived.Deep.QuietTactic
import Derived.BigQuiet
import Derived.WalkSmall
import Derived.Test.YtihkopdamgboiaaM
import Derived.Test.YtihkopdamgboiaaF
namespace Go.Proofs.Ytihkopdamgboiaa
open Go.RowKit Go.Shelf
set_option linter.unusedVariables false
attribute [local go_sem] Oper.semAt_some

/-- A watcher of the reference lies at block b, its numbers at block h, the slice's capacity is c. -/
structure IsRef (W : World) (b h c : Nat) (pat : Int) (zs : List Int) : Prop where
  pat : W.cell? ⟨b, 0, none⟩ = some (.int .i64 pat)
  sl : W.cell? ⟨b, 1, none⟩ = some (.slice (some ⟨h, 0, none⟩) zs.length c)
  at' : ∀ j, j < zs.length → W.cell? ⟨h, j, none⟩ = some (.int .i64 (zs[j]?.getD 0))
  free : ∀ j, j < zs.length → W.frozen? ⟨h, j, none⟩ = false
  ne : b ≠ h
  few : zs.length ≤ 5
  one : 1 ≤ zs.length

theorem IsRef.set {W : World} {b h c : Nat} {pat : Int} {zs : List Int} (hw : IsRef W b h c pat zs) (k : Nat) (hk : k < zs.length) (now : Int) :
    IsRef (W.setCell ⟨h, k, none⟩ (.int .i64 now)) b h c pat (zs.set k now) where
  pat := by rw [World.cell?_setCell_other _ _ _ _ (by intro e; cases e; exact hw.ne rfl)]; exact hw.pat
  sl := by rw [World.cell?_setCell_other _ _ _ _ (by intro e; cases e; exact hw.ne rfl)]; simpa using hw.sl
  at' := fun j hj => by
    simp at hj
    by_cases e : j = k
    · subst e
      rw [World.cell?_setCell_same' _ _ _ (by rw [hw.at' j hj]; rfl)]
      simp [hj]
    · rw [World.cell?_setCell_other _ _ _ _ (by intro e'; cases e'; exact e rfl), hw.at' j hj]
      simp [List.getElem?_set_ne (fun e' => e e'.symm)]
  free := fun j hj => by rw [World.frozen?_setCell]; exact hw.free j (by simpa using hj)
  ne := hw.ne
  few := by simpa using hw.few
  one := by simpa using hw.one
theorem IsRef.below {W W' : World} {n₀ b h c : Nat} {pat : Int} {zs : List Int} (hw : IsRef W b h c pat zs) (hb : b < n₀) (hh : h < n₀) (hB : Below n₀ W W') : IsRef W' b h c pat zs where
  pat := (hB.cell (p := ⟨b, 0, none⟩) hb).trans hw.pat
  sl := (hB.cell (p := ⟨b, 1, none⟩) hb).trans hw.sl
  at' := fun j hj => (hB.cell (p := ⟨h, j, none⟩) hh).trans (hw.at' j hj)
  free := fun j hj => (hB.frozen (p := ⟨h, j, none⟩) hh).trans (hw.free j hj)
  ne := hw.ne
  few := hw.few
  one := hw.one
theorem IsRef.sizes {W : World} {b h c : Nat} {pat : Int} {zs : List Int} (hw : IsRef W b h c pat zs) : b < W.heap.size ∧ h < W.heap.size := by
  have key : ∀ {g o : Nat} {v : Value}, W.cell? ⟨g, o, none⟩ = some v → g < W.heap.size := fun {g o v} e => by
    obtain ⟨x, hx, _⟩ := cells_of_cell e
    exact (Array.getElem?_eq_some_iff.1 hx).1
  exact ⟨key hw.pat, key (hw.at' 0 hw.one)⟩

theorem hear_no {W : World} {b h c : Nat} {pat : Int} {zs : List Int} (hw : IsRef W b h c pat zs) (store now : Int) (hn : hearOk zs store now = false) :
    Calls Try.prog 14 #[.pointer (some ⟨b, 0, none⟩), .int .i64 store, .int .i64 now] W fun e w' => e = .returned (.bool false) ∧ W = w' := by
  obtain ⟨h1, h2, h3, h4, h5, h6, h7⟩ := hw
  unfold hearOk at hn
  by_cases c1 : store < 1
  · clear hn h3 h4
    go_enter Try.func14, Try.ntmps14
    go_wp2
    go_ret
    exact ⟨rfl, rfl⟩
  · by_cases c2 : (zs.length : Int) < store
    · clear hn h3 h4
      go_enter Try.func14, Try.ntmps14
      go_wp2
      go_ret
      exact ⟨rfl, rfl⟩
    · obtain ⟨k, rfl⟩ : ∃ k : Nat, store = (k : Int) + 1 := ⟨(store - 1).toNat, by omega⟩
      have hk : k < zs.length := by omega
      have e : ((k : Int) + 1 - 1).toNat = k := by omega
      rw [e] at hn
      have c3 : now < zs[k] := by simp at hn; have := hn (by omega) (by omega); simpa [hk] using this
      have hc := h3 k hk
      clear hn h3 h4 e
      go_enter Try.func14, Try.ntmps14
      go_wp2
      go_ret
      exact ⟨rfl, rfl⟩
theorem hear_yes {W : World} {b h c : Nat} {pat : Int} {zs : List Int} (hw : IsRef W b h c pat zs) (k : Nat) (now : Int) (hk : k < zs.length) (hle : zs[k] ≤ now) :
    Calls Try.prog 14 #[.pointer (some ⟨b, 0, none⟩), .int .i64 ((k : Int) + 1), .int .i64 now] W fun e w' => e = .returned (.bool true) ∧ W.setCell ⟨h, k, none⟩ (.int .i64 now) = w' := by
  obtain ⟨h1, h2, h3, h4, h5, h6, h7⟩ := hw
  have hc := h3 k hk
  have hf := h4 k hk
  clear h3 h4
  go_enter Try.func14, Try.ntmps14
  go_wp2
  go_ret
  exact ⟨rfl, rfl⟩
theorem hear_any {W : World} {b h c B : Nat} {pat : Int} {zs : List Int} (hw : IsRef W b h c pat zs) (store now : Int) (hh : B ≤ h) :
    Calls Try.prog 14 #[.pointer (some ⟨b, 0, none⟩), .int .i64 store, .int .i64 now] W fun e w' => ∃ (zs' : List Int), e = .returned (.bool (hearOk zs store now)) ∧
      zs' = (if hearOk zs store now = true then zs.set (store - 1).toNat now else zs) ∧ IsRef w' b h c pat zs' ∧ Below B W w' := by
  by_cases hk : hearOk zs store now = true
  · have hk' := hk
    simp only [hearOk, decide_eq_true_eq] at hk'
    obtain ⟨k, rfl⟩ : ∃ k : Nat, store = (k : Int) + 1 := ⟨(store - 1).toNat, by omega⟩
    have e1 : ((k : Int) + 1 - 1).toNat = k := by omega
    have hkl : k < zs.length := by omega
    refine (hear_yes hw k now hkl (by have := hk'.2.2; rw [e1] at this; simpa [hkl] using this)).mono ?_
    rintro e w' ⟨rfl, rfl⟩
    exact ⟨_, by rw [hk], by rw [if_pos hk], by rw [e1]; exact hw.set k hkl now, (Below.refl _ _).setCell (p := ⟨h, k, none⟩) hh _⟩
  · refine (hear_no hw store now (by simpa using hk)).mono ?_
    rintro e w' ⟨rfl, rfl⟩
    exact ⟨_, by simp at hk; rw [hk], by rw [if_neg hk], hw, Below.refl _ _⟩

theorem setN_ref {W : World} {b h c : Nat} {pat : Int} {zs : List Int} (hw : IsRef W b h c pat zs) (now : Int) (k : Nat) (hk : k ≤ zs.length) : IsRef (setN W h now k) b h c pat (setL zs now k) := by
  induction k with
  | zero => exact hw
  | succ k ih => exact (ih (by omega)).set k (by rw [setL_length]; omega) now

set_option maxHeartbeats 400000 in
theorem ragain_yes {W : World} {b h c : Nat} {pat : Int} {zs : List Int} (hw : IsRef W b h c pat zs) (now : Int) (h0 : 0 ≤ now) :
    Calls Try.prog 15 #[.pointer (some ⟨b, 0, none⟩), .int .i64 now] W fun e w' => e = .returned (.tuple #[]) ∧ setN W h now zs.length = w' := by
  have hlen := hw.few
  go_enter Try.func15, Try.ntmps15
  go_wp2
  go_loopw [4] (fun i wr => ∃ k : Nat, k ≤ zs.length ∧ i = .int .i64 k ∧ Hid (wr = setN W h now k)) (fun i _ => zs.length - (intOf i).toNat)
  case atStart => exact ⟨0, Nat.zero_le _, rfl, rfl⟩
  case round =>
    obtain ⟨k, hk, rfl, hh⟩ := hrel
    have hww := setN_ref hw now k hk
    rw [← hh.out] at hww
    have f1 := hww.sl
    rw [setL_length] at f1
    by_cases hlt : k < zs.length
    · have f2 := hww.at' k (by rw [setL_length]; exact hlt)
      have f3 := hww.free k (by rw [setL_length]; exact hlt)
      clear hww hw
      go_wp2
      go_roundw
      case rel => exact ⟨k + 1, by omega, by go_num, by show _ = setN W h now (k + 1); rw [setN, hh.out]⟩
      case measure => simp [intOf]; omega
    · obtain rfl : k = zs.length := by omega
      clear hww hw
      go_wp2
      go_end0
      exact ⟨rfl, hh.out.symm⟩
theorem ragain_no {W : World} {b h c : Nat} {pat : Int} {zs : List Int} (hw : IsRef W b h c pat zs) (now : Int) (h0 : now < 0) :
    Calls Try.prog 15 #[.pointer (some ⟨b, 0, none⟩), .int .i64 now] W fun e w' => e = .returned (.tuple #[]) ∧ W = w' := by
  have f1 := hw.sl
  have f2 := hw.few
  have f3 := hw.one
  clear hw
  go_enter Try.func15, Try.ntmps15
  go_wp2
  go_loopw [4] (fun i wr => i = .int .i64 0 ∧ wr = W) (fun _ _ => 0)
  case atStart => exact ⟨rfl, rfl⟩
  case round =>
    obtain ⟨rfl, rfl⟩ := hrel
    go_wp2
    go_end0
    exact ⟨rfl, rfl⟩

theorem own_set {B : Nat} {W : World} {v : Value} {xs : List Int} (h : OwnInts B W v xs) {p : Addr} (hp : p.block < B) (x : Value) : OwnInts B (W.setCell p x) v xs := by
  refine ⟨h.1, ?_⟩
  rcases h.2 with h0 | ⟨g, cap, cur, e, hb, hh, r⟩
  · exact .inl h0
  · exact .inr ⟨g, cap, cur, e, hb, by rw [heap_setCell_other _ _ _ _ (by omega)]; exact hh, r⟩
theorem rnew_no (W : World) (stores patience now : Int) (hn : newOk stores patience now = false) :
    Calls Try.prog 13 #[.int .i64 stores, .int .i64 patience, .int .i64 now] W fun e w' => e = .returned (.tuple #[.pointer none, .bool false]) ∧ W = w' := by
  have hn' : stores < 1 ∨ 5 < stores ∨ patience < 1 ∨ 100000 < patience ∨ now < 0 := by simp [newOk] at hn; omega
  clear hn
  by_cases c1 : stores < 1
  · clear hn'; go_enter Try.func13, Try.ntmps13; go_wp2; go_ret2; exact ⟨rfl, rfl⟩
  by_cases c2 : 5 < stores
  · clear hn'; go_enter Try.func13, Try.ntmps13; go_wp2; go_ret2; exact ⟨rfl, rfl⟩
  by_cases c3 : patience < 1
  · clear hn'; go_enter Try.func13, Try.ntmps13; go_wp2; go_ret2; exact ⟨rfl, rfl⟩
  by_cases c4 : 100000 < patience
  · clear hn'; go_enter Try.func13, Try.ntmps13; go_wp2; go_ret2; exact ⟨rfl, rfl⟩
  have c5 : now < 0 := by omega
  clear hn'; go_enter Try.func13, Try.ntmps13; go_wp2; go_ret2; exact ⟨rfl, rfl⟩

set_option maxHeartbeats 400000 in
theorem rnew_yes (W : World) (n : Nat) (patience now : Int) (h1 : 1 ≤ n) (h2 : n ≤ 5) (h3 : 1 ≤ patience) (h4 : patience ≤ 100000) (h5 : 0 ≤ now) :
    Calls Try.prog 13 #[.int .i64 n, .int .i64 patience, .int .i64 now] W fun e w' => ∃ b h c, e = .returned (.tuple #[.pointer (some ⟨b, 0, none⟩), .bool true]) ∧
      IsRef w' b h c patience (List.replicate n now) ∧ W.heap.size ≤ b ∧ W.heap.size ≤ h ∧ Below W.heap.size W w' := by
  go_enter Try.func13, Try.ntmps13
  go_wp2_with fail
  go_loopw [9] (fun i wr => ∃ (k : Nat) (v : Value), k ≤ n ∧ i = .int .i64 k ∧ wr.cell? ⟨W.heap.size, 0, none⟩ = some (.int .i64 patience) ∧ wr.cell? ⟨W.heap.size, 1, none⟩ = some v ∧ wr.frozen? ⟨W.heap.size, 1, none⟩ = false ∧
    Hid (OwnInts (W.heap.size + 1) wr v (List.replicate k now)) ∧ Hid (Below W.heap.size W wr)) (fun i _ => n - (intOf i).toNat)
  case atStart =>
    refine ⟨0, .slice none 0 0, Nat.zero_le _, rfl, ?_, ?_, ?_, own_nil, (Below.refl _ _).alloc (Nat.le_refl _) _⟩
    · rw [World.cell?_alloc_at _ _ _ _ rfl]; rfl
    · rw [World.cell?_alloc_at _ _ _ _ rfl]; rfl
    · rw [World.frozen?_alloc_at _ _ _ _ rfl]
  case round =>
    obtain ⟨k, v, hk, rfl, f0, f1, f2, hv, hB⟩ := hrel
    have hz := hB.out.size
    have hz2 : W.heap.size < wr.heap.size := by
      obtain ⟨o, ho, _⟩ := cells_of_cell f0
      exact (Array.getElem?_eq_some_iff.1 ho).1
    by_cases hlt : k < n
    · have hlk : (List.replicate k now).length + 1 ≤ 1000000 := by simp; omega
      have hlk' := Lib.hid hlk
      clear hlk
      go_wp2_with (at_builtin; go_loud (refine wpList_append_one rfl (.tmp 40) (.tmp 42) rfl rfl hv.out now rfl hlk'.out hz2 ?_); intro v' w1 hown' hB1; obtain ⟨a', c', rfl, -⟩ := own_form hown'; have hown2 := Lib.hid hown'; have hB2 := Lib.hid hB1; have g0 := (hB1.cell (p := ⟨W.heap.size, 0, none⟩) (by simp)).trans f0; have g1 := (hB1.cell (p := ⟨W.heap.size, 1, none⟩) (by simp)).trans f1; have g2 := (hB1.frozen (p := ⟨W.heap.size, 1, none⟩) (by simp)).trans f2; clear hown' hB1)
      have hrep : Hid (List.replicate (k + 1) now = List.replicate k now ++ [now]) := List.replicate_succ'
      go_roundw
      case rel =>
        refine ⟨k + 1, _, by omega, by go_num, ?_, World.cell?_setCell_same' _ _ _ (by rw [g1]; rfl), by rw [World.frozen?_setCell]; exact g2, ?_, ?_⟩
        · rw [World.cell?_setCell_other _ _ _ _ (by intro e; cases e)]; exact g0
        · have h9 := own_set (p := ⟨W.heap.size, 1, none⟩) hown2.out (by simp) (Value.slice a' (k + 1) c')
          rw [show (List.replicate k now ++ [now]).length = k + 1 by simp] at h9
          rw [hrep.out]; exact h9
        · exact (hB.out.trans (hB2.out.mono (by omega))).setCell (p := ⟨W.heap.size, 1, none⟩) (Nat.le_refl _) _
      case measure => simp [intOf]; omega
    · obtain rfl : k = n := by omega
      have hv' := hv.out.2
      rcases hv' with ⟨_, h0⟩ | ⟨g, cap, cur, rfl, hg, hh, hle, _, hsz, htk⟩
      · simp at h0; omega
      have hh' := Lib.hid hh
      have htk' := Lib.hid htk
      clear hh htk hv hsz
      go_wp2
      go_ret2
      refine ⟨W.heap.size, g, cap, rfl, ⟨f0, f1, fun j hj => ?_, fun j hj => ?_, by omega, by simpa using h2, by simpa using h1⟩, Nat.le_refl _, by omega, hB.out⟩
      · simp at hj
        have h1 : ((List.replicate k now).map (Value.int .i64))[j]? = some (.int .i64 now) := by simp [hj]
        rw [← htk'.out, List.getElem?_take] at h1
        split at h1
        · simp only [World.cell?, hh'.out]; simp [hj]; simpa using h1
        · cases h1
      · simp [World.frozen?, hh'.out]
end Go.Proofs.Ytihkopdamgboiaa
