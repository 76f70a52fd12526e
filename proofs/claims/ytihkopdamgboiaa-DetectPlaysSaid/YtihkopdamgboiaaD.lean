/- Silent. -/
import Derived.Test.YtihkopdamgboiaaC
namespace Go.Proofs.Ytihkopdamgboiaa
open Go.RowKit Go.Shelf
set_option linter.unusedVariables false
attribute [local go_sem] Oper.semAt_some

/-- w.all(now): both are boxed; the function value captures the boxes. -/
theorem all_in (n : Nat) (p0 : Option Addr) (now : Int) (w : World) :
    CallsIn Fence.wide n Try.prog 21 #[.pointer p0, .int .i64 now] w fun e w' => e = .returned (.func (.func 23) #[] #[.pointer (some ⟨w.heap.size, 0, none⟩), .pointer (some ⟨w.heap.size + 1, 0, none⟩)]) ∧
      w' = (w.alloc (.cells #[.pointer p0] 25)).alloc (.cells #[.int .i64 now] 3) := by
  refine callsIn_of_wp Try.func21 rfl trivial ?_ rfl
  simp only [Try.ntmps21, List.size_toArray, List.length_cons, List.length_nil, Nat.reduceAdd, Nat.reduceSub, Array.replicate_succ, Array.replicate_zero, List.push_toArray, List.append_toArray, List.nil_append, List.cons_append]
  gi_wp2
  go_ret
  exact ⟨rfl, rfl⟩

theorem abides_drew {β : Type} {B : Nat} {J : β → World → Prop} (h : AbidesFrom B J) (s : β) (W : World) (hs : J s W) : J s W.drew :=
  h s W W.drew none hs ⟨rfl, rfl, rfl, Nat.le_refl _, fun _ _ _ => rfl⟩ (fun r e => by cases e)

theorem all_stops (n : Nat) (hn : 1 ≤ n) (B1 B2 n₀ b h : Nat) (pat now : Int) (zs : List Int) (hb : b < n₀) (hh : h < n₀) (hp1 : 1 ≤ pat) (hp2 : pat ≤ 100000) (hn0 : 0 ≤ now) (hn1 : now ≤ 9223372036854775807)
    (w : World) (hsz : n₀ ≤ w.heap.size) (hB1 : w.cell? ⟨B1, 0, none⟩ = some (.pointer (some ⟨b, 0, none⟩))) (hB2 : w.cell? ⟨B2, 0, none⟩ = some (.int .i64 now)) (hl1 : B1 < w.heap.size) (hl2 : B2 < w.heap.size) (hw : IsWatch w b h pat zs) :
    SeqStopsK Fence.wide n Try.prog 23 #[.pointer (some ⟨B1, 0, none⟩), .pointer (some ⟨B2, 0, none⟩)] (fun x : Int × Bool => #[Value.int .i64 x.1, .bool x.2]) (Kp n₀ B1 B2) (fun ys => ys = upto (item pat now zs) zs.length)
      (fun pre => ∃ k, k ≤ zs.length ∧ pre = upto (item pat now zs) k) zs.length w := fun l J Jx W hW hJ _ hY h0 =>
  all1_in n l B1 B2 n₀ b h hn pat now zs hb hh hp1 hp2 hn0 hn1 J Jx (fun pre W => abides_drew hJ pre W) hY W
    ((hW.cell (p := ⟨B1, 0, none⟩) hl1).trans hB1) ((hW.cell (p := ⟨B2, 0, none⟩) hl2).trans hB2) (hw.below hb hh (hW.mono hsz)) h0

/-- Silent, in mind. -/
def silentB (pat now : Int) (zs : List Int) (store : Int) : Bool := decide (1 ≤ store ∧ store ≤ zs.length ∧ zs[(store - 1).toNat]?.getD 0 ≤ now - pat)

set_option maxRecDepth 100000 in
set_option maxHeartbeats 2000000 in
theorem silent_in (b h : Nat) (pat now store : Int) (zs : List Int) (hp1 : 1 ≤ pat) (hp2 : pat ≤ 100000) (hn0 : 0 ≤ now) (hn1 : now ≤ 9223372036854775807)
    (w : World) (hb : b < w.heap.size) (hh : h < w.heap.size) (hw : IsWatch w b h pat zs) :
    CallsIn Fence.wide 6 Try.prog 12 #[.pointer (some ⟨b, 0, none⟩), .int .i64 store, .int .i64 now] w fun e w' => e = .returned (.bool (silentB pat now zs store)) ∧ Below w.heap.size w w' := by
  refine callsIn_of_wp_marks Try.func12 rfl trivial ?_ rfl
  simp only [Try.ntmps12, List.size_toArray, List.length_cons, List.length_nil, Nat.reduceAdd, Nat.reduceSub, Array.replicate_succ, Array.replicate_zero, List.push_toArray, List.append_toArray, List.nil_append, List.cons_append]
  gi_wp2_with (refine ⟨trivial, ?_⟩; gi_at_call 21; refine (all_in _ _ _ _).mono ?_; rintro e w' ⟨rfl, rfl⟩)
  have hB0 : Below w.heap.size w ((((w.alloc (.cells #[.int .i64 store] 3)).alloc (.cells #[.bool false] 4)).alloc (.cells #[.pointer (some ⟨b, 0, none⟩)] 25)).alloc (.cells #[.int .i64 now] 3)) :=
    ((((Below.refl _ w).alloc (Nat.le_refl _) _).alloc (by simp) _).alloc (by simp; omega) _).alloc (by simp; omega) _
  have e1 : ((((w.alloc (.cells #[.int .i64 store] 3)).alloc (.cells #[.bool false] 4)).alloc (.cells #[.pointer (some ⟨b, 0, none⟩)] 25)).alloc (.cells #[.int .i64 now] 3)).cell? ⟨w.heap.size, 0, none⟩ = some (.int .i64 store) := by
    rw [World.cell?_alloc_past _ _ _ (by simp; omega), World.cell?_alloc_past _ _ _ (by simp; omega), World.cell?_alloc_past _ _ _ (by simp), World.cell?_alloc_at _ _ _ _ rfl]; rfl
  have e2 : ((((w.alloc (.cells #[.int .i64 store] 3)).alloc (.cells #[.bool false] 4)).alloc (.cells #[.pointer (some ⟨b, 0, none⟩)] 25)).alloc (.cells #[.int .i64 now] 3)).cell? ⟨w.heap.size + 1, 0, none⟩ = some (.bool false) := by
    rw [World.cell?_alloc_past _ _ _ (by simp), World.cell?_alloc_past _ _ _ (by simp), World.cell?_alloc_at _ _ _ _ (by simp)]; rfl
  have e2f : ((((w.alloc (.cells #[.int .i64 store] 3)).alloc (.cells #[.bool false] 4)).alloc (.cells #[.pointer (some ⟨b, 0, none⟩)] 25)).alloc (.cells #[.int .i64 now] 3)).frozen? ⟨w.heap.size + 1, 0, none⟩ = false := by
    rw [World.frozen?_alloc_past _ _ _ (by simp), World.frozen?_alloc_past _ _ _ (by simp), World.frozen?_alloc_at _ _ _ _ (by simp)]
  have e3 : ((((w.alloc (.cells #[.int .i64 store] 3)).alloc (.cells #[.bool false] 4)).alloc (.cells #[.pointer (some ⟨b, 0, none⟩)] 25)).alloc (.cells #[.int .i64 now] 3)).cell? ⟨w.heap.size + 1 + 1, 0, none⟩ = some (.pointer (some ⟨b, 0, none⟩)) := by
    rw [World.cell?_alloc_past _ _ _ (by simp), World.cell?_alloc_at _ _ _ _ (by simp)]; rfl
  have e4 : ((((w.alloc (.cells #[.int .i64 store] 3)).alloc (.cells #[.bool false] 4)).alloc (.cells #[.pointer (some ⟨b, 0, none⟩)] 25)).alloc (.cells #[.int .i64 now] 3)).cell? ⟨w.heap.size + 1 + 1 + 1, 0, none⟩ = some (.int .i64 now) := by
    rw [World.cell?_alloc_at _ _ _ _ (by simp)]; rfl
  refine wpIn_rangeFunc_ownG rfl (by omega) (gf := 23) (lb := #[.pointer (some ⟨w.heap.size + 1 + 1, 0, none⟩), .pointer (some ⟨w.heap.size + 1 + 1 + 1, 0, none⟩)]) rfl trivial (enters_of Try.func23 (by kernel_rfl) rfl)
    (all_stops 5 (by omega) _ _ w.heap.size b h pat now zs hb hh hp1 hp2 hn0 hn1 _ (by simp; omega) e3 e4 (by simp) (by simp) (hw.below hb hh hB0)) Kp.trans (Kp.putObj (by simp; omega)) (Below.refl _ _) (fun _ => rfl)
    (fun pre W => ((∀ x ∈ pre, x.1 ≠ store) ∧ W.cell? ⟨w.heap.size, 0, none⟩ = some (.int .i64 store) ∧ W.cell? ⟨w.heap.size + 1, 0, none⟩ = some (.bool false) ∧ W.frozen? ⟨w.heap.size + 1, 0, none⟩ = false) ∧ Below w.heap.size w W)
    (fun c pre W => (c = .ret ∧ ∃ ini last, pre = ini ++ [last] ∧ last.1 = store ∧ W.cell? ⟨w.heap.size + 1, 0, none⟩ = some (.bool last.2)) ∧ Below w.heap.size w W)
    (OwnFrom.and (Own.from (fun s A B row hs hg hr => ⟨hs.1, cell_kept hs.2.1 hg hr, cell_kept hs.2.2.1 hg hr, (frozen_kept hs.2.2.1 hg hr).trans hs.2.2.2⟩) _) (ownFrom_below (Nat.le_refl _) (by simp; omega)))
    (fun c => OwnFrom.and (Own.from (fun s A B row hs hg hr => by obtain ⟨hc, ini, last, e1, e2, e3⟩ := hs; exact ⟨hc, ini, last, e1, e2, cell_kept e3 hg hr⟩) _) (ownFrom_below (Nat.le_refl _) (by simp; omega)))
    ⟨⟨by simp, e1, e2, e2f⟩, hB0⟩
    (fun x => { tmps := #[.pointer (some ⟨b, 0, none⟩), .int .i64 store, .int .i64 now, undef, .pointer (some ⟨w.heap.size, 0, none⟩), undef, .pointer (some ⟨w.heap.size + 1, 0, none⟩), .int .i64 x.1, .bool x.2,
      .pointer (some ⟨b, 0, none⟩), .bool false, .bool false, .int .i64 now, .bool (decide (now < 0)), .bool (decide (now < 0)), .pointer (some ⟨b, 0, none⟩), .int .i64 now,
      .func (.func 23) #[] #[.pointer (some ⟨w.heap.size + 1 + 1, 0, none⟩), .pointer (some ⟨w.heap.size + 1 + 1 + 1, 0, none⟩)], .int .i64 x.1, .bool x.2, undef, undef, undef, undef], defers := [] }) ?assign ?body ?done ?stop
  case assign =>
    intro l x W K hK
    gi_wp2
    exact hK
  case body =>
    rintro l pre x W ⟨⟨hne, hc, hr, hf⟩, hB⟩ _
    clear e1 e2 e2f e3 e4 hB0
    gi_wp2
    · have hx : (x.1 == store) = true := by assumption
      exact ⟨(KeepsOthers.setCell _ _ _).from _, ⟨rfl, pre, x, rfl, by simpa using hx, World.cell?_setCell_same' _ _ _ (by rw [hr]; rfl)⟩, hB.setCell (p := ⟨w.heap.size + 1, 0, none⟩) (by simp) _⟩
    · have hx : (x.1 == store) = false := by assumption
      exact ⟨KeepsFrom.refl _ _, Kp.refl _ _ _ _, ⟨fun p hp' => (List.mem_append.1 hp').elim (hne p) (fun e => by simp at e; subst e; simpa using hx), hc, hr, hf⟩, hB⟩
  case done =>
    clear e1 e2 e2f e3 e4 hB0
    rintro D ys W hD rfl ⟨⟨hne, hc, hr, hf⟩, hB⟩ hK
    have hs : silentB pat now zs store = false := by
      simp only [silentB, decide_eq_false_iff_not]
      rintro ⟨a1, a2, a3⟩
      refine hne (item pat now zs (store - 1).toNat) (List.mem_map.2 ⟨_, List.mem_range.2 (by omega), rfl⟩) ?_
      simp [item]; omega
    have hs' := Lib.hid hs
    clear hs hne
    gi_wp2
    have hK' := (KeepsOthers.setCell W ⟨w.heap.size + 1, 0, none⟩ (.bool false)).same D _ hK rfl
    refine ⟨by simp, .inl ⟨_, _, rfl, run_takeDeferred hK', ?_⟩⟩
    have hc5 := cell_kept (World.cell?_setCell_same' W ⟨w.heap.size + 1, 0, none⟩ (.bool false) (by rw [hr]; rfl)) (grownBy_putObj' _ D (.deferred none)) (fun r e => by cases e; exact ⟨_, hK', rfl⟩)
    refine ⟨.bool false, ?_, by rw [hs'.out], (hB.setCell (p := ⟨w.heap.size + 1, 0, none⟩) (by simp) _).trans (belowK_b (w := w) (Nat.le_refl _) _ D _ _ (by simp at hD; omega) hK' rfl rfl)⟩
    simp [results, Try.f12, go_sem, hc5]
  case stop =>
    clear e1 e2 e2f e3 e4 hB0
    rintro D c pre W hD ⟨k, hk, rfl⟩ ⟨⟨rfl, ini, last, e1, e2, hcr⟩, hB⟩ hK
    have hs : silentB pat now zs store = last.2 := by
      obtain ⟨k', rfl⟩ : ∃ k', k = k' + 1 := by
        cases k with
        | zero => simp [upto] at e1
        | succ k' => exact ⟨k', rfl⟩
      rw [upto_succ] at e1
      obtain ⟨rfl, e5⟩ := List.append_inj' e1 rfl
      obtain rfl : item pat now zs k' = last := by simpa using e5
      subst e2
      have : ((k' : Int) + 1 - 1).toNat = k' := by omega
      simp only [silentB, item, this]
      rw [decide_eq_decide]
      omega
    have hs' := Lib.hid hs
    clear hs e1 e2
    gi_wp2
    refine ⟨by simp, .inl ⟨_, _, rfl, run_takeDeferred hK, ?_⟩⟩
    have hc5 := cell_kept hcr (grownBy_putObj' _ D (.deferred none)) (fun r e => by cases e; exact ⟨_, hK, rfl⟩)
    refine ⟨.bool last.2, ?_, by rw [hs'.out], hB.trans (belowK_b (w := w) (Nat.le_refl _) _ D _ _ (by simp at hD; omega) hK rfl rfl)⟩
    simp [results, Try.f12, go_sem, hc5]
end Go.Proofs.Ytihkopdamgboiaa
