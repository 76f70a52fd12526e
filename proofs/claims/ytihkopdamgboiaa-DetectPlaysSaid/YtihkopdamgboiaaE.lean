/- Says. -/
import Derived.Laws.EntriesVeiled
import Derived.Test.YtihkopdamgboiaaD
namespace Go.Proofs.Ytihkopdamgboiaa
open Go.RowKit Go.Shelf
set_option linter.unusedVariables false
attribute [local go_sem] Oper.semAt_some

theorem Try.info36 : (Try.prog.info? 36).map (fun i => (i.zero, i.size, i.bytes)) = some (some (.agg #[.int .u8 0, .int .i64 0, .int .i64 0, .int .i64 0]), 4, 32) := by kernel_rfl

/-- A command, in mind: its kind, the store. -/
def cmd (ds : List Int) (x : Int × Bool) : List (Int × Int) := bif x.2 then (bif hasB ds x.1 then [] else [(5, x.1)]) else (bif hasB ds x.1 then [(6, x.1)] else [])
def cmds (ds : List Int) (l : List (Int × Bool)) : List (Int × Int) := l.flatMap (cmd ds)
def ccell (c : Int × Int) : List Value := [.int .u8 c.1, .int .i64 0, .int .i64 c.2, .int .i64 0]
def ccells (l : List (Int × Int)) : List Value := l.flatMap ccell
theorem cmds_snoc (ds : List Int) (l : List (Int × Bool)) (x : Int × Bool) : cmds ds (l ++ [x]) = cmds ds l ++ cmd ds x := by simp [cmds]
theorem ccells_app (l m : List (Int × Int)) : ccells (l ++ m) = ccells l ++ ccells m := by simp [ccells]
theorem cmd_len (ds : List Int) (x : Int × Bool) : (cmd ds x).length ≤ 1 := by
  unfold cmd
  cases x.2 <;> cases hasB ds x.1 <;> simp
theorem cmds_len (ds : List Int) (l : List (Int × Bool)) : (cmds ds l).length ≤ l.length := by
  induction l with
  | nil => simp [cmds]
  | cons x l ih =>
    have := cmd_len ds x
    simp only [cmds, List.flatMap_cons, List.length_append, List.length_cons] at ih ⊢
    omega
/-- Says, in mind. -/
def says (pat now : Int) (zs ds : List Int) : List (Int × Int) := cmds ds (upto (item pat now zs) zs.length)

theorem cell_four_new (w : World) (x0 x1 x2 x3 : Value) (t : TypeId) : ∀ j u, [x0, x1, x2, x3][j]? = some u → (w.alloc (.cells #[x0, x1, x2, x3] t)).cell? ((⟨w.heap.size, 0, none⟩ : Addr).add j) = some u := by
  intro j u hj
  have e : ((⟨w.heap.size, 0, none⟩ : Addr).add j) = ⟨w.heap.size, j, none⟩ := by unfold Addr.add; split <;> simp_all
  rw [e, World.cell?_alloc_at _ _ _ _ rfl]
  match j, hj with
  | 0, hj => exact hj
  | 1, hj => exact hj
  | 2, hj => exact hj
  | 3, hj => exact hj

theorem Boxed.kept_app {W w1 : World} {B B' : Nat} {t e : TypeId} {size n₀ k : Nat} {u v v' : Value} {xs : List Value} {tmp : Obj} (hb : Boxed W B' t u) (hte : t ≠ e) (hrow : W.ownsRow n₀ e size v k xs)
    (hgrow : (W.alloc tmp).grownBy w1 v.ownBlock) (hne : B' ≠ B) : Boxed (w1.setCell ⟨B, 0, none⟩ v') B' t u :=
  ((hb.alloc tmp).kept hgrow (hb.not_row hte hrow)).other hne v'

theorem boxed_kept {A B : World} {b : Nat} {t : TypeId} {v : Value} {row : Option Nat} (hs : Boxed A b t v) (hg : A.grownBy B row) (hr : ∀ r, row = some r → ∃ o : Obj, A.heap[r]? = some o ∧ o.isCells = false) : Boxed B b t v :=
  boxed_own (β := Unit) b t (fun _ => v) () A B row hs hg hr
set_option maxRecDepth 100000 in
set_option maxHeartbeats 2000000 in
theorem says_in (b h : Nat) (pat now : Int) (zs ds : List Int) (a : Option Addr) (len cap : Nat) (hds : ds.length ≤ 9223372036854775807) (hp1 : 1 ≤ pat) (hp2 : pat ≤ 100000) (hn0 : 0 ≤ now) (hn1 : now ≤ 9223372036854775807)
    (w : World) (hb : b < w.heap.size) (hh : h < w.heap.size) (hw : IsWatch w b h pat zs) (hsv : Ints w.heap.size w (.slice a len cap) ds) :
    CallsIn Fence.wide 6 Try.prog 10 #[.pointer (some ⟨b, 0, none⟩), .slice a len cap, .int .i64 now] w fun e w' => ∃ v, e = .returned v ∧
      w'.ownsRow w.heap.size 36 4 v (says pat now zs ds).length (ccells (says pat now zs ds)) ∧ (v = .slice none 0 0 ↔ says pat now zs ds = []) ∧ Below w.heap.size w w' := by
  have hlen := hw.few
  obtain ⟨i0, hi, hz0, hz1, hz2⟩ := info_parts Try.info36
  refine callsIn_of_wp_marks Try.func10 rfl trivial ?_ rfl
  simp only [Try.ntmps10, List.size_toArray, List.length_cons, List.length_nil, Nat.reduceAdd, Nat.reduceSub, Array.replicate_succ, Array.replicate_zero, List.push_toArray, List.append_toArray, List.nil_append, List.cons_append]
  gi_wp2_with (refine ⟨trivial, ?_⟩; gi_at_call 21; refine (all_in _ _ _ _).mono ?_; rintro e w' ⟨rfl, rfl⟩)
  have hB0 : Below w.heap.size w (((((w.alloc (.cells #[.slice a len cap] 23)).alloc (.cells #[.func (.func 19) #[] #[.pointer (some ⟨w.heap.size, 0, none⟩)]] 49)).alloc (.cells #[.slice none 0 0] 33)).alloc (.cells #[.pointer (some ⟨b, 0, none⟩)] 25)).alloc (.cells #[.int .i64 now] 3)) := (((((Below.refl _ w).alloc (Nat.le_refl _) _).alloc (by simp) _).alloc (by simp; omega) _).alloc (by simp; omega) _).alloc (by simp; omega) _
  have q0 := Boxed.new w 23 (.slice a len cap)
  replace q0 := Boxed.alloc q0 (.cells #[.func (.func 19) #[] #[.pointer (some ⟨w.heap.size, 0, none⟩)]] 49)
  replace q0 := Boxed.alloc q0 (.cells #[.slice none 0 0] 33)
  replace q0 := Boxed.alloc q0 (.cells #[.pointer (some ⟨b, 0, none⟩)] 25)
  replace q0 := Boxed.alloc q0 (.cells #[.int .i64 now] 3)
  have q1 := Boxed.new (w.alloc (.cells #[.slice a len cap] 23)) 49 (.func (.func 19) #[] #[.pointer (some ⟨w.heap.size, 0, none⟩)])
  simp only [World.size_alloc] at q1
  replace q1 := Boxed.alloc q1 (.cells #[.slice none 0 0] 33)
  replace q1 := Boxed.alloc q1 (.cells #[.pointer (some ⟨b, 0, none⟩)] 25)
  replace q1 := Boxed.alloc q1 (.cells #[.int .i64 now] 3)
  have q2 := Boxed.new ((w.alloc (.cells #[.slice a len cap] 23)).alloc (.cells #[.func (.func 19) #[] #[.pointer (some ⟨w.heap.size, 0, none⟩)]] 49)) 33 (.slice none 0 0)
  simp only [World.size_alloc] at q2
  replace q2 := Boxed.alloc q2 (.cells #[.pointer (some ⟨b, 0, none⟩)] 25)
  replace q2 := Boxed.alloc q2 (.cells #[.int .i64 now] 3)
  have q3 := Boxed.new (((w.alloc (.cells #[.slice a len cap] 23)).alloc (.cells #[.func (.func 19) #[] #[.pointer (some ⟨w.heap.size, 0, none⟩)]] 49)).alloc (.cells #[.slice none 0 0] 33)) 25 (.pointer (some ⟨b, 0, none⟩))
  simp only [World.size_alloc] at q3
  replace q3 := Boxed.alloc q3 (.cells #[.int .i64 now] 3)
  have q4 := Boxed.new ((((w.alloc (.cells #[.slice a len cap] 23)).alloc (.cells #[.func (.func 19) #[] #[.pointer (some ⟨w.heap.size, 0, none⟩)]] 49)).alloc (.cells #[.slice none 0 0] 33)).alloc (.cells #[.pointer (some ⟨b, 0, none⟩)] 25)) 3 (.int .i64 now)
  simp only [World.size_alloc] at q4
  refine wpIn_rangeFunc_ownG rfl (by omega) (gf := 23) (lb := #[.pointer (some ⟨w.heap.size + 1 + 1 + 1, 0, none⟩), .pointer (some ⟨w.heap.size + 1 + 1 + 1 + 1, 0, none⟩)]) rfl trivial (enters_of Try.func23 (by kernel_rfl) rfl)
    (all_stops 5 (by omega) _ _ w.heap.size b h pat now zs hb hh hp1 hp2 hn0 hn1 _ (by simp; omega) q3.cell q4.cell (by simp) (by simp) (hw.below hb hh hB0)) Kp.trans (Kp.putObj (by simp; omega)) (Below.refl _ _) (fun _ => rfl)
    (fun pre W => ((∃ v, Boxed W (w.heap.size + 1 + 1) 33 v ∧ W.ownsRow w.heap.size 36 4 v (cmds ds pre).length (ccells (cmds ds pre)) ∧ (v = .slice none 0 0 ↔ cmds ds pre = [])) ∧
      (Boxed W w.heap.size 23 (.slice a len cap) ∧ Boxed W (w.heap.size + 1) 49 (.func (.func 19) #[] #[.pointer (some ⟨w.heap.size, 0, none⟩)]) ∧ Boxed W (w.heap.size + 1 + 1 + 1) 25 (.pointer (some ⟨b, 0, none⟩)) ∧ Boxed W (w.heap.size + 1 + 1 + 1 + 1) 3 (.int .i64 now))) ∧ Below w.heap.size w W)
    (fun _ _ _ => False)
    (OwnFrom.and (Own.from (fun s A B row hs hg hr => ⟨holdsRow_own w.heap.size (w.heap.size + 1 + 1) 33 36 4 (fun pre => (cmds ds pre).length) (fun pre => ccells (cmds ds pre)) (fun pre v => v = .slice none 0 0 ↔ cmds ds pre = []) s A B row hs.1 hg hr,
      boxed_kept hs.2.1 hg hr, boxed_kept hs.2.2.1 hg hr, boxed_kept hs.2.2.2.1 hg hr, boxed_kept hs.2.2.2.2 hg hr⟩) _) (ownFrom_below (Nat.le_refl _) (by simp; omega)))
    (fun _ _ _ _ _ hs _ _ => hs)
    ⟨⟨⟨_, q2, World.ownsRow_nil _ _ _ _, by simp [cmds]⟩, q0, q1, q3, q4⟩, hB0⟩
    (fun x => { tmps := #[.pointer (some ⟨b, 0, none⟩), .slice a len cap, .int .i64 now, undef, .pointer (some ⟨w.heap.size, 0, none⟩), undef, .slice none 0 0, .pointer (some ⟨w.heap.size + 1, 0, none⟩), .pointer (some ⟨w.heap.size + 1 + 1, 0, none⟩), .int .i64 x.1, .bool x.2, .int .i64 now, .bool (decide (now < 0)), .func (.func 19) #[] #[.pointer (some ⟨w.heap.size, 0, none⟩)], .pointer (some ⟨b, 0, none⟩), .int .i64 now, .func (.func 23) #[] #[.pointer (some ⟨w.heap.size + 1 + 1 + 1, 0, none⟩), .pointer (some ⟨w.heap.size + 1 + 1 + 1 + 1, 0, none⟩)], .int .i64 x.1, .bool x.2, undef, undef, undef, undef, undef, undef, undef, undef, undef, undef, undef, undef, undef, undef, undef, undef, undef, undef, undef, undef, undef, undef, undef, undef, undef, undef, undef], defers := [] }) ?assign ?body ?done ?stop
  case assign =>
    intro l x W K hK
    gi_wp2
    exact hK
  case body =>
    rintro l pre ⟨st, sil⟩ W ⟨⟨⟨v, hv, hrow, hnil⟩, r0, r1, r3, r4⟩, hB⟩ hlt
    have hpl : (cmds ds pre).length ≤ pre.length := cmds_len ds pre
    have hdn := Lib.hid (down_any st hds r0.cell (hsv.below hB))
    have hsn := Lib.hid (cmds_snoc ds pre (st, sil))
    have hc2 := hv.cell
    have hc1 := r1.cell
    have hW' := Lib.hid hw
    have hq3 := Lib.hid r3
    have hq4 := Lib.hid r4
    have hq0 := Lib.hid r0
    have hq1 := Lib.hid r1
    have hn' := Lib.hid hnil
    have hlen' := Lib.hid hlen
    clear hnil hw q0 q1 q2 q3 q4 hB0 r0 r1 r3 r4 hlen
    obtain ⟨dn, hdd⟩ : ∃ dn, hasB ds st = dn := ⟨_, rfl⟩
    rw [hdd] at hdn
    have hcm : cmd ds (st, sil) = bif sil then (bif dn then [] else [(5, st)]) else (bif dn then [(6, st)] else []) := by simp only [cmd, hdd]
    have hcm' := Lib.hid hcm
    clear hcm hdd
    cases sil <;> cases dn
    · gi_wp2_with (refine ⟨trivial, ?_⟩; gi_at_call 19; refine (CallsIn.inRound l (callsIn_wide.2 hdn.out)).mono ?_; rintro e w' ⟨rfl, rfl⟩)
      refine ⟨fun _ h => (by cases h), ?_⟩
      gi_wp2_with (refine ⟨trivial, ?_⟩; gi_at_call 19; refine (CallsIn.inRound l (callsIn_wide.2 hdn.out)).mono ?_; rintro e w' ⟨rfl, rfl⟩)
      exact ⟨KeepsFrom.refl _ _, Kp.refl _ _ _ _, ⟨⟨v, hv, by rw [hsn.out, hcm'.out]; simpa using hrow, by rw [hsn.out, hcm'.out]; simpa using hn'.out⟩, hq0.out, hq1.out, hq3.out, hq4.out⟩, hB⟩
    · gi_wp2_with (refine ⟨trivial, ?_⟩; gi_at_call 19; refine (CallsIn.inRound l (callsIn_wide.2 hdn.out)).mono ?_; rintro e w' ⟨rfl, rfl⟩)
      refine ⟨fun _ h => (by cases h), ?_⟩
      gi_wp2_with (first | (refine ⟨trivial, ?_⟩; gi_at_call 19; refine (CallsIn.inRound l (callsIn_wide.2 hdn.out)).mono ?_; rintro e w' ⟨rfl, rfl⟩) | (gi_at_builtin; go_loud (refine wpListIn_append_own _ rfl _ _ 33 rfl w.heap.size 36 i0 (.agg #[.int .u8 0, .int .i64 0, .int .i64 0, .int .i64 0]) 4 32 Try.underlying33 hi hz0 hz1 hz2 rfl (by decide) _ _ _ rfl (hrow.alloc _) ⟨W.heap.size, 0, none⟩ 1 1 [.int .u8 6, .int .i64 0, .int .i64 st, .int .i64 0] rfl rfl (cell_four_new _ _ _ _ _ _) (by simp [Value.oneCell']) (by have := hlen'.out; unfold maxLen; omega) (by have := hlen'.out; omega) (by have := hB.size; simp; omega) ?_); intro v' w1 hown' hgrow _; obtain ⟨g', cap', rfl⟩ := ownsRow_succ hown'; obtain ⟨hv1, hv2, hr2, hk2, hb2⟩ := hv.appended (by decide) hrow hB.size (by omega) hown' hgrow; have hg4 := Lib.hid hgrow; have hc4 := hv1.cell; have hf1 := hv1.frozen))
      have b0 := Boxed.kept_app (v' := .slice (some ⟨g', 0, none⟩) ((cmds ds pre).length + 1) cap') hq0.out (by decide) hrow hg4.out (B := w.heap.size + 1 + 1) (by omega)
      have b1 := Boxed.kept_app (v' := .slice (some ⟨g', 0, none⟩) ((cmds ds pre).length + 1) cap') hq1.out (by decide) hrow hg4.out (B := w.heap.size + 1 + 1) (by omega)
      have b3 := Boxed.kept_app (v' := .slice (some ⟨g', 0, none⟩) ((cmds ds pre).length + 1) cap') hq3.out (by decide) hrow hg4.out (B := w.heap.size + 1 + 1) (by omega)
      have b4 := Boxed.kept_app (v' := .slice (some ⟨g', 0, none⟩) ((cmds ds pre).length + 1) cap') hq4.out (by decide) hrow hg4.out (B := w.heap.size + 1 + 1) (by omega)
      exact ⟨hk2.from _, ⟨hb2, fun u hu => by rw [hq3.out.cell] at hu; cases hu; exact b3.cell, fun u hu => by rw [hq4.out.cell] at hu; cases hu; exact b4.cell⟩,
        ⟨⟨_, hv2, by rw [hsn.out, hcm'.out]; simpa [ccells_app, ccells, ccell] using hr2, by rw [hsn.out, hcm'.out]; simp⟩, b0, b1, b3, b4⟩, hB.trans hb2⟩
    · gi_wp2_with (first | (refine ⟨trivial, ?_⟩; gi_at_call 19; refine (CallsIn.inRound l (callsIn_wide.2 hdn.out)).mono ?_; rintro e w' ⟨rfl, rfl⟩) | (gi_at_builtin; go_loud (refine wpListIn_append_own _ rfl _ _ 33 rfl w.heap.size 36 i0 (.agg #[.int .u8 0, .int .i64 0, .int .i64 0, .int .i64 0]) 4 32 Try.underlying33 hi hz0 hz1 hz2 rfl (by decide) _ _ _ rfl (hrow.alloc _) ⟨W.heap.size, 0, none⟩ 1 1 [.int .u8 5, .int .i64 0, .int .i64 st, .int .i64 0] rfl rfl (cell_four_new _ _ _ _ _ _) (by simp [Value.oneCell']) (by have := hlen'.out; unfold maxLen; omega) (by have := hlen'.out; omega) (by have := hB.size; simp; omega) ?_); intro v' w1 hown' hgrow _; obtain ⟨g', cap', rfl⟩ := ownsRow_succ hown'; obtain ⟨hv1, hv2, hr2, hk2, hb2⟩ := hv.appended (by decide) hrow hB.size (by omega) hown' hgrow; have hg4 := Lib.hid hgrow; have hc4 := hv1.cell; have hf1 := hv1.frozen))
      have b0 := Boxed.kept_app (v' := .slice (some ⟨g', 0, none⟩) ((cmds ds pre).length + 1) cap') hq0.out (by decide) hrow hg4.out (B := w.heap.size + 1 + 1) (by omega)
      have b1 := Boxed.kept_app (v' := .slice (some ⟨g', 0, none⟩) ((cmds ds pre).length + 1) cap') hq1.out (by decide) hrow hg4.out (B := w.heap.size + 1 + 1) (by omega)
      have b3 := Boxed.kept_app (v' := .slice (some ⟨g', 0, none⟩) ((cmds ds pre).length + 1) cap') hq3.out (by decide) hrow hg4.out (B := w.heap.size + 1 + 1) (by omega)
      have b4 := Boxed.kept_app (v' := .slice (some ⟨g', 0, none⟩) ((cmds ds pre).length + 1) cap') hq4.out (by decide) hrow hg4.out (B := w.heap.size + 1 + 1) (by omega)
      exact ⟨hk2.from _, ⟨hb2, fun u hu => by rw [hq3.out.cell] at hu; cases hu; exact b3.cell, fun u hu => by rw [hq4.out.cell] at hu; cases hu; exact b4.cell⟩,
        ⟨⟨_, hv2, by rw [hsn.out, hcm'.out]; simpa [ccells_app, ccells, ccell] using hr2, by rw [hsn.out, hcm'.out]; simp⟩, b0, b1, b3, b4⟩, hB.trans hb2⟩
    · gi_wp2_with (refine ⟨trivial, ?_⟩; gi_at_call 19; refine (CallsIn.inRound l (callsIn_wide.2 hdn.out)).mono ?_; rintro e w' ⟨rfl, rfl⟩)
      refine ⟨fun _ h => (by cases h), ?_⟩
      gi_wp2
      exact ⟨KeepsFrom.refl _ _, Kp.refl _ _ _ _, ⟨⟨v, hv, by rw [hsn.out, hcm'.out]; simpa using hrow, by rw [hsn.out, hcm'.out]; simpa using hn'.out⟩, hq0.out, hq1.out, hq3.out, hq4.out⟩, hB⟩
  case done =>
    rintro D ys W hD rfl ⟨⟨⟨v, hv, hrow, hnil⟩, r0, r1, r3, r4⟩, hB⟩ hK
    clear q0 q1 q2 q3 q4 hB0 r0 r1 r3 r4
    have hc := hv.cell
    gi_wp2
    refine ⟨by simp, .inl ⟨_, _, rfl, run_takeDeferred hK, ?_⟩⟩
    exact ⟨_, results_tmp rfl _ _ _, v, rfl, ownsRow_putObj hrow _ hK rfl, hnil, hB.trans (belowK_b (w := w) (Nat.le_refl _) W D _ _ (by simp at hD; omega) hK rfl rfl)⟩
  case stop =>
    rintro D c pre W _ _ h _
    exact h.elim

theorem says_any (b h : Nat) (pat now : Int) (zs ds : List Int) (a : Option Addr) (len cap : Nat) (hds : ds.length ≤ 9223372036854775807) (hp1 : 1 ≤ pat) (hp2 : pat ≤ 100000) (hn0 : 0 ≤ now) (hn1 : now ≤ 9223372036854775807)
    (w : World) (hb : b < w.heap.size) (hh : h < w.heap.size) (hw : IsWatch w b h pat zs) (hsv : Ints w.heap.size w (.slice a len cap) ds) :
    Calls Try.prog 10 #[.pointer (some ⟨b, 0, none⟩), .slice a len cap, .int .i64 now] w fun e w' => ∃ v, e = .returned v ∧
      w'.ownsRow w.heap.size 36 4 v (says pat now zs ds).length (ccells (says pat now zs ds)) ∧ (v = .slice none 0 0 ↔ says pat now zs ds = []) ∧ Below w.heap.size w w' :=
  callsIn_wide.1 (says_in b h pat now zs ds a len cap hds hp1 hp2 hn0 hn1 w hb hh hw hsv)
theorem silent_any (b h : Nat) (pat now store : Int) (zs : List Int) (hp1 : 1 ≤ pat) (hp2 : pat ≤ 100000) (hn0 : 0 ≤ now) (hn1 : now ≤ 9223372036854775807)
    (w : World) (hb : b < w.heap.size) (hh : h < w.heap.size) (hw : IsWatch w b h pat zs) :
    Calls Try.prog 12 #[.pointer (some ⟨b, 0, none⟩), .int .i64 store, .int .i64 now] w fun e w' => e = .returned (.bool (silentB pat now zs store)) ∧ Below w.heap.size w w' :=
  callsIn_wide.1 (silent_in b h pat now store zs hp1 hp2 hn0 hn1 w hb hh hw)

theorem says_neg (p : Option Addr) (a : Option Addr) (len cap : Nat) (now : Int) (hn : now < 0) (w : World) :
    Calls Try.prog 10 #[.pointer p, .slice a len cap, .int .i64 now] w fun e w' => e = .returned (.slice none 0 0) ∧ Below w.heap.size w w' := by
  go_enter Try.func10, Try.ntmps10
  go_wp2
  go_ret
  exact ⟨rfl, (Below.refl _ _).alloc (Nat.le_refl _) _⟩
theorem heard_nil (store now : Int) (w : World) : Calls Try.prog 9 #[.pointer none, .int .i64 store, .int .i64 now] w fun e w' => e = .returned (.int .i64 2) ∧ w = w' := by
  go_enter Try.func9, Try.ntmps9
  go_wp2
  go_ret
  exact ⟨rfl, rfl⟩
theorem silent_no (p : Option Addr) (store now : Int) (h : p = none ∨ now < 0) (w : World) : Calls Try.prog 12 #[.pointer p, .int .i64 store, .int .i64 now] w fun e w' => e = .returned (.bool false) ∧ Below w.heap.size w w' := by
  have hB : Below w.heap.size w ((w.alloc (.cells #[.int .i64 store] 3)).alloc (.cells #[.bool false] 4)) := ((Below.refl _ _).alloc (Nat.le_refl _) _).alloc (by simp) _
  have hB' := Lib.hid hB
  clear hB
  cases p with
  | none =>
    clear h
    go_enter Try.func12, Try.ntmps12
    go_wp2
    refine bodyPost_ret (v := .bool false) (by simp [results, Try.f12, go_sem]) rfl ⟨rfl, ?_⟩
    exact hB'.out
  | some a =>
    have hn : now < 0 := by simpa using h
    clear h
    go_enter Try.func12, Try.ntmps12
    go_wp2
    refine bodyPost_ret (v := .bool false) (by simp [results, Try.f12, go_sem]) rfl ⟨rfl, ?_⟩
    exact hB'.out
end Go.Proofs.Ytihkopdamgboiaa
