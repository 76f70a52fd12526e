import Derived.Test.YtpinmfjiiapgfaaGreatDoorProg
import Derived.RangeFuncNested
import Derived.RangeFuncBound
import Derived.RangeFuncCalls
import Derived.RangeFuncLeaves
import Derived.Shelf.Abstract
import Derived.Shelf.RegionOpen
import Derived.WalkKit
import Derived.OwnWalkIn
import Derived.TacticsInMore
import Derived.LoopNIn
import Derived.LoopIn
import Derived.IntWalk
import Derived.RangeFuncWrites
import Derived.Lib.Hide
import Derived.Deep.RegionHeld
/- rlog.Members over a log that has none. -/
namespace Sim.Mem
open Go Go.RowKit Go.Shelf Go.Proofs
set_option linter.unusedVariables false
attribute [local go_sem] Oper.semAt_some

theorem hp_new (w : World) (o : Obj) : (w.alloc o).heap[w.heap.size]? = some o := by
  show (w.heap.push o)[w.heap.size]? = _
  simp
/-- An entry, in mind. -/
structure Ent where
  t : Int
  k : Int
  s : ByteArray
  p : Option Addr
  n : Nat
  c : Nat
def Ent.v (e : Ent) : Value := .agg #[.int .i64 e.t, .int .u8 e.k, .string e.s, .slice e.p e.n e.c]
/-- Entries lie in a block. -/
def Ents (W : World) (g off : Nat) (es : List Ent) : Prop := ∀ j (h : j < es.length),
  W.cell? ⟨g, off + j * 4, none⟩ = some (.int .i64 es[j].t) ∧ W.cell? ⟨g, off + j * 4 + 1, none⟩ = some (.int .u8 es[j].k) ∧
  W.cell? ⟨g, off + j * 4 + 2, none⟩ = some (.string es[j].s) ∧ W.cell? ⟨g, off + j * 4 + 3, none⟩ = some (.slice es[j].p es[j].n es[j].c)
theorem Ents.below {W W' : World} {g off n₀ : Nat} {es : List Ent} (h : Ents W g off es) (hg : g < n₀) (hB : Below n₀ W W') : Ents W' g off es := fun j hj => by
  obtain ⟨h1, h2, h3, h4⟩ := h j hj
  exact ⟨(hB.cell (p := ⟨g, off + j * 4, none⟩) hg).trans h1, (hB.cell (p := ⟨g, off + j * 4 + 1, none⟩) hg).trans h2, (hB.cell (p := ⟨g, off + j * 4 + 2, none⟩) hg).trans h3, (hB.cell (p := ⟨g, off + j * 4 + 3, none⟩) hg).trans h4⟩
/-- What a round keeps. -/
structure Kb (n₀ B : Nat) (W W' : World) : Prop where
  below : Below n₀ W W'
  c1 : ∀ v, W.cell? ⟨B, 0, none⟩ = some v → W'.cell? ⟨B, 0, none⟩ = some v
theorem Kb.refl (n₀ B : Nat) (W : World) : Kb n₀ B W W := ⟨Below.refl _ _, fun _ h => h⟩
theorem Kb.trans {n₀ B : Nat} {A C D : World} (h : Kb n₀ B A C) (k : Kb n₀ B C D) : Kb n₀ B A D := ⟨h.below.trans k.below, fun v e => k.c1 v (h.c1 v e)⟩
theorem Kb.drew (n₀ B : Nat) (W : World) : Kb n₀ B W W.drew := ⟨Below.drew (Below.refl _ _), fun _ h => h⟩
theorem Kb.putObj {n₀ B : Nat} {w : World} (hn : n₀ ≤ w.heap.size) (W : World) (l : Nat) (o o' : Obj) (hl : w.heap.size ≤ l) (hW : W.heap[l]? = some o) (ho : o.isCells = false) (hk : o.isWalk = false) : Kb n₀ B W (W.putObj l o') :=
  ⟨belowK_b hn W l o o' hl hW ho hk, fun _ h => cell_kept h (grownBy_putObj' _ l o') (fun r e => by cases e; exact ⟨_, hW, ho⟩)⟩
theorem Kb.alloc {n₀ B : Nat} {W : World} (h : n₀ ≤ W.heap.size) (o : Obj) : Kb n₀ B W (W.alloc o) :=
  ⟨(Below.refl _ _).alloc h _, fun v e => by
    have hlt : B < W.heap.size := Decidable.byContradiction fun h => by simp [World.cell?, Array.getElem?_eq_none (Nat.le_of_not_lt h)] at e
    rw [World.cell?_alloc_past _ _ _ hlt]; exact e⟩
theorem abides_drew {β : Type} {B : Nat} {J : β → World → Prop} (h : AbidesFrom B J) (s : β) (W : World) (hs : J s W) : J s W.drew :=
  h s W W.drew none hs ⟨rfl, rfl, rfl, Nat.le_refl _, fun _ _ _ => rfl⟩ (fun r e => by cases e)
/-- The k-th that comes: the last one first. -/
def item (es : List Ent) (k : Nat) : Int × Ent := (((es.length - 1 - k : Nat) : Int), es[es.length - 1 - k]?.getD ⟨0, 0, .empty, none, 0, 0⟩)
abbrev It := {x : Int × Ent // x.2.k ≠ 3}
def item3 (es : List Ent) (hk : ∀ e ∈ es, e.k ≠ 3) (k : Nat) : It := ⟨item es k, by
  unfold item
  cases h : es[es.length - 1 - k]? with
  | none => simp
  | some e => exact hk e (List.mem_of_getElem? h)⟩
def upto {α : Type} (f : Nat → α) (k : Nat) : List α := (List.range k).map f
theorem upto_succ {α : Type} (f : Nat → α) (k : Nat) : upto f (k + 1) = upto f k ++ [f k] := by simp [upto, List.range_succ]
theorem upto_length {α : Type} (f : Nat → α) (k : Nat) : (upto f k).length = k := by simp [upto]
def RPost {α : Type} (J Jx : List α → World → Prop) (pre : List α) (K : World → World → Prop) (W : World) (bb : Bool) (W' : World) : Prop :=
  (bb = true ∧ J pre W' ∧ K W W') ∨ (bb = false ∧ Jx pre W')

theorem back_in (n : Nat) (v : Option Addr) (len cap : Nat) (w : World) :
    CallsIn Fence.wide n Tryz.prog 209 #[.slice v len cap] w fun e w' => e = .returned (.func (.func 268) #[] #[.pointer (some ⟨w.heap.size, 0, none⟩)]) ∧ w' = w.alloc (.cells #[.slice v len cap] 57) := by
  refine callsIn_of_wp Tryz.func209 rfl trivial ?_ rfl
  simp only [Tryz.ntmps209, List.size_toArray, List.length_cons, List.length_nil, Nat.reduceAdd, Nat.reduceSub, Array.replicate_succ, Array.replicate_zero, List.push_toArray, List.append_toArray, List.nil_append, List.cons_append]
  gi_wp2
  go_ret
  exact ⟨rfl, rfl⟩

set_option maxRecDepth 100000 in
set_option maxHeartbeats 2000000 in
theorem back1_in (n l B n₀ g off cap : Nat) (hn : 1 ≤ n) (es : List Ent) (hk3 : ∀ e ∈ es, e.k ≠ 3) (hg : g < n₀) (hfew : es.length ≤ 1000000000) (J Jx : List It → World → Prop) (hJd : ∀ pre W, J pre W → J pre W.drew)
    (hY : ∀ pre x W, J pre W → pre.length < es.length → YieldAt Fence.wide (n - 1) Tryz.prog l #[.int .i64 x.1.1, x.1.2.v] W fun e W' =>
      (e = .returned (.bool true) ∧ J (pre ++ [x]) W' ∧ Kb n₀ B W W') ∨ (e = .returned (.bool false) ∧ Jx (pre ++ [x]) W'))
    (W : World) (hB : W.cell? ⟨B, 0, none⟩ = some (.slice (some ⟨g, off, none⟩) es.length cap)) (hw : Ents W g off es) (h0 : J [] W) :
    CallsIn Fence.wide n Tryz.prog 268 #[.func (.yield l) #[] #[], .pointer (some ⟨B, 0, none⟩)] W fun e W' => (∃ v, e = .returned v) ∧
      ((∃ ys, ys = upto (item3 es hk3) es.length ∧ J ys W') ∨ (∃ pre, True ∧ Jx pre W')) := by
  have hsub0 : IntKind.i64.wrap ((es.length : Int) - 1) = (es.length : Int) - 1 := IntWalk.i64_in _ (by omega)
  refine callsIn_of_wp Tryz.func268 rfl trivial ?_ rfl
  simp only [Tryz.ntmps268, List.size_toArray, List.length_cons, List.length_nil, Nat.reduceAdd, Nat.reduceSub, Array.replicate_succ, Array.replicate_zero, List.push_toArray, List.append_toArray, List.nil_append, List.cons_append]
  gi_wp2
  gi_loopw [3] (fun i wr => ∃ k : Nat, k ≤ es.length ∧ i = .int .i64 ((es.length : Int) - 1 - k) ∧ J (upto (item3 es hk3) k) wr ∧ Kb n₀ B W wr)
    (fun i _ => (intOf i + 1).toNat)
  case atStart => exact ⟨0, Nat.zero_le _, by simp, h0, Kb.refl _ _ _⟩
  case round =>
    obtain ⟨k, hk, rfl, hJs, hnx⟩ := hrel
    have c1 := hnx.c1 _ hB
    by_cases hlt : k < es.length
    · obtain ⟨j, hj⟩ : ∃ j : Nat, j + k + 1 = es.length := ⟨es.length - 1 - k, by omega⟩
      have ej : (es.length : Int) - 1 - k = (j : Int) := by omega
      have hjl : j < es.length := by omega
      have hit : (item3 es hk3 k).1 = ((j : Int), es[j]) := by
        have : es.length - 1 - k = j := by omega
        simp [item3, item, this, hjl]
      obtain ⟨c2, c3, c4, c5⟩ := (hw.below hg hnx.below) j hjl
      obtain ⟨fn, tmps, assign, body, hy, hR⟩ := hY _ (item3 es hk3 k) wr hJs (by rw [upto_length]; exact hlt)
      rw [hit] at hy
      dsimp only [Ent.v] at hy
      have hR2 := hR.mono (R' := fun e W' => ∃ bb, e = .returned (.bool bb) ∧ RPost J Jx (upto (item3 es hk3) k ++ [item3 es hk3 k]) (Kb n₀ B) wr bb W') (by
        rintro e W' (⟨rfl, h1, h2⟩ | ⟨rfl, h1⟩)
        · exact ⟨true, rfl, .inl ⟨rfl, h1, h2⟩⟩
        · exact ⟨false, rfl, .inr ⟨rfl, h1⟩⟩)
      have hR' := Lib.hid hR2
      have hge : ((0 : Int) ≤ (j : Int)) := by omega
      have hsub : IntKind.i64.wrap ((j : Int) - 1) = (j : Int) - 1 := IntWalk.i64_in _ (by omega)
      have hjl2 : (j : Int) < es.length := by omega
      rw [ej]
      clear hR2 hw hB hit hR
      gi_wp2
      refine hR'.out.mono ?_
      rintro e W3 ⟨bb, rfl, hpo⟩
      rcases hpo with ⟨rfl, hJ3, hk3⟩ | ⟨rfl, hJx3⟩
      · gi_wp2
        go_roundw
        case rel => exact ⟨k + 1, by omega, by first | rfl | (congr 1; done) | (congr 1; omega), by rw [upto_succ]; exact hJ3, hnx.trans hk3⟩
        case measure => simp [intOf] <;> omega
      · gi_wp2
        refine bodyPost_ret (results_none rfl _ _ _) rfl ?_
        exact ⟨⟨_, rfl⟩, .inr ⟨_, trivial, hJx3⟩⟩
    · obtain rfl : k = es.length := by omega
      have e1 : (es.length : Int) - 1 - es.length = -1 := by omega
      rw [e1]
      gi_wp2
      go_end0
      exact ⟨⟨_, rfl⟩, .inl ⟨_, rfl, hJs⟩⟩

set_option maxRecDepth 100000 in
set_option maxHeartbeats 2000000 in
theorem back0_in (n l B n₀ cap : Nat) (p : Option Addr) (hn : 1 ≤ n) (J : List It → World → Prop)
    (W : World) (hB : W.cell? ⟨B, 0, none⟩ = some (.slice p 0 cap)) (h0 : J [] W) :
    CallsIn Fence.wide n Tryz.prog 268 #[.func (.yield l) #[] #[], .pointer (some ⟨B, 0, none⟩)] W fun e W' => (∃ v, e = .returned v) ∧ J [] W' := by
  refine callsIn_of_wp Tryz.func268 rfl trivial ?_ rfl
  simp only [Tryz.ntmps268, List.size_toArray, List.length_cons, List.length_nil, Nat.reduceAdd, Nat.reduceSub, Array.replicate_succ, Array.replicate_zero, List.push_toArray, List.append_toArray, List.nil_append, List.cons_append]
  gi_wp2
  refine wpIn_loop_rounds 1 ?_
  rw [roundsIn_succ]
  gi_wp2
  go_end0
  exact ⟨⟨_, rfl⟩, h0⟩
theorem back_stops (n : Nat) (hn : 1 ≤ n) (B n₀ cap : Nat) (p : Option Addr) (es : List Ent) (hk3 : ∀ e ∈ es, e.k ≠ 3) (hfew : es.length ≤ 1000000000)
    (w : World) (hsz : n₀ ≤ w.heap.size) (hl : B < w.heap.size) (hB : w.cell? ⟨B, 0, none⟩ = some (.slice p es.length cap)) (hes : es.length = 0 ∨ ∃ g off, p = some ⟨g, off, none⟩ ∧ g < n₀ ∧ Ents w g off es) :
    SeqStopsK Fence.wide n Tryz.prog 268 #[.pointer (some ⟨B, 0, none⟩)] (fun x : It => #[Value.int .i64 x.1.1, x.1.2.v]) (Kb n₀ B) (fun ys => ys = upto (item3 es hk3) es.length) (fun _ => True) es.length w := by
  intro l J Jx W hW hJ hJx hY h0
  have c1 := (hW.cell (p := ⟨B, 0, none⟩) hl).trans hB
  rcases hes with h | ⟨g, off, rfl, hg, hE⟩
  · have he : es = [] := List.length_eq_zero_iff.1 h
    subst he
    refine (back0_in n l B n₀ cap p hn J W c1 h0).mono ?_
    rintro e W' ⟨hv, hj⟩
    exact ⟨hv, .inl ⟨[], rfl, hj⟩⟩
  · exact back1_in n l B n₀ g off cap hn es hk3 hg hfew J Jx (fun pre W => abides_drew hJ pre W) hY W c1 (hE.below hg (hW.mono hsz)) h0

/-- The two results' boxes. -/
def Out2 (r : Nat) (W : World) : Prop := W.cell? ⟨r, 0, none⟩ = some (.slice none 0 0) ∧ W.frozen? ⟨r, 0, none⟩ = false ∧ W.cell? ⟨r + 1, 0, none⟩ = some (.bool false) ∧ W.frozen? ⟨r + 1, 0, none⟩ = false
theorem out2_own {β : Type} (r : Nat) : Own (fun (_ : β) W => Out2 r W) := fun s A B row hs hg hr =>
  ⟨cell_kept hs.1 hg hr, (frozen_kept hs.1 hg hr).trans hs.2.1, cell_kept hs.2.2.1 hg hr, (frozen_kept hs.2.2.1 hg hr).trans hs.2.2.2⟩
theorem Out2.alloc {r : Nat} {W : World} (h : Out2 r W) (o : Obj) : Out2 r (W.alloc o) := out2_own (β := Unit) r () W _ none h (World.grownBy_alloc _ _ _) (fun r e => by cases e)

set_option maxRecDepth 100000 in
set_option maxHeartbeats 2000000 in
theorem Members_in (b : Nat) (i : Int) (p : Option Addr) (cap : Nat) (es : List Ent) (hfew : es.length ≤ 1000000000) (hk : ∀ e ∈ es, e.k ≠ 3)
    (w : World) (hb : w.cell? ⟨b, 2, none⟩ = some (.slice p es.length cap)) (hes : es.length = 0 ∨ ∃ g off, p = some ⟨g, off, none⟩ ∧ g < w.heap.size ∧ Ents w g off es) :
    CallsIn Fence.wide 6 Tryz.prog 120 #[.pointer (some ⟨b, 0, none⟩), .int .i64 i] w fun e w' => e = .returned (.tuple #[.slice none 0 0, .bool false]) ∧ Below w.heap.size w w' := by
  have hbl : b < w.heap.size := Decidable.byContradiction fun h => by simp [World.cell?, Array.getElem?_eq_none (Nat.le_of_not_lt h)] at hb
  have hB0 : Below w.heap.size w ((((w.alloc (.cells #[.pointer (some ⟨b, 0, none⟩)] 155)).alloc (.cells #[.int .i64 i] 3)).alloc (.cells #[.slice none 0 0] 58)).alloc (.cells #[.bool false] 4)) :=
    ((((Below.refl _ w).alloc (Nat.le_refl _) _).alloc (by simp) _).alloc (by simp; omega) _).alloc (by simp; omega) _
  have hb4 := (hB0.cell (p := ⟨b, 2, none⟩) hbl).trans hb
  have hB0' := Lib.hid hB0
  have hb' := Lib.hid hb
  have hes' := Lib.hid hes
  clear hB0 hb hes
  refine callsIn_of_wp_marks Tryz.func120 rfl trivial ?_ rfl
  simp only [Tryz.ntmps120, List.size_toArray, List.length_cons, List.length_nil, Nat.reduceAdd, Nat.reduceSub, Array.replicate_succ, Array.replicate_zero, List.push_toArray, List.append_toArray, List.nil_append, List.cons_append]
  gi_wp2_with (refine ⟨trivial, ?_⟩; gi_at_call 209; refine (back_in _ _ _ _ _).mono ?_; rintro e w' ⟨rfl, rfl⟩)
  have f0 := hb'.out
  refine wpIn_rangeFunc_ownH rfl (by omega) (gf := 268) (lb := #[.pointer (some ⟨w.heap.size + 1 + 1 + 1 + 1, 0, none⟩)]) rfl trivial (enters_of Tryz.func268 (by kernel_rfl) rfl)
    (back_stops 5 (by omega) _ w.heap.size cap p es hk hfew _ (by simp; omega) (by simp) (by rw [World.cell?_alloc_at _ _ _ _ (by simp)]; rfl) (hes'.out.elim .inl (fun ⟨g, off, h1, h2, h3⟩ => .inr ⟨g, off, h1, h2, h3.below h2 (hB0'.out.alloc (by simp; omega) _)⟩))) Kb.trans (Kb.putObj (by simp; omega)) (Below.refl _ _) (fun _ => rfl)
    (fun pre W => Out2 (w.heap.size + 1 + 1) W ∧ Below w.heap.size w W)
    (fun _ _ _ => False)
    (OwnFrom.and (Own.from (out2_own _) _) (ownFrom_below (Nat.le_refl _) (by simp; omega)))
    (fun _ _ _ _ _ hs _ _ => hs)
    ⟨⟨?c0, ?f0, ?c1, ?f1⟩, hB0'.out.alloc (by simp; omega) _⟩
    (fun x a' W => ∃ Bx, W.cell? ⟨Bx, 1, none⟩ = some (.int .u8 x.1.2.k) ∧ a' = { tmps := #[.pointer (some ⟨b, 0, none⟩), .int .i64 i, .pointer (some ⟨w.heap.size, 0, none⟩), .pointer (some ⟨w.heap.size + 1, 0, none⟩), .pointer (some ⟨w.heap.size + 1 + 1, 0, none⟩), .pointer (some ⟨w.heap.size + 1 + 1 + 1, 0, none⟩), .int .i64 x.1.1, .pointer (some ⟨Bx, 0, none⟩), .pointer (some ⟨b, 0, none⟩), .bool false, .pointer (some ⟨b, 0, none⟩), .pointer (some ⟨b, 0, none⟩), .pointer (some ⟨b, 2, none⟩), .slice p es.length cap, .func (.func 268) #[] #[.pointer (some ⟨w.heap.size + 1 + 1 + 1 + 1, 0, none⟩)], .int .i64 x.1.1, x.1.2.v, undef, undef, undef, undef, undef, undef, undef, undef, undef, undef, undef, undef, undef, undef, undef, undef, undef], defers := [] })
    (fun x a' => by
      rintro s A B row ⟨Bx, h1, h2⟩ hg hr
      exact ⟨Bx, cell_kept h1 hg (fun r e => (hr r e).2), h2⟩) ?assign ?body ?done ?stop
  case c0 => rw [World.cell?_alloc_past _ _ _ (by simp <;> omega), World.cell?_alloc_past _ _ _ (by simp), World.cell?_alloc_at _ _ _ _ (by simp)]; rfl
  case f0 => rw [World.frozen?_alloc_past _ _ _ (by simp <;> omega), World.frozen?_alloc_past _ _ _ (by simp), World.frozen?_alloc_at _ _ _ _ (by simp)]
  case c1 => rw [World.cell?_alloc_past _ _ _ (by simp), World.cell?_alloc_at _ _ _ _ (by simp)]; rfl
  case f1 => rw [World.frozen?_alloc_past _ _ _ (by simp), World.frozen?_alloc_at _ _ _ _ (by simp)]
  case assign =>
    rintro l pre x W K ⟨h1, hB⟩ hK
    have hK' := Lib.hid hK
    have h1' := Lib.hid h1
    have hs := hB.size
    clear hK h1 f0 hb4
    unfold Ent.v
    gi_wp2
    exact hK'.out _ _ ((KeepsOthers.alloc _ _).from _) (Kb.alloc hs _) ⟨h1'.out.alloc _, hB.alloc hs _⟩ ⟨W.heap.size, by rw [World.cell?_alloc_at _ _ _ _ rfl]; rfl, rfl⟩
  case body =>
    rintro l pre x a' W _ _ ⟨h1, hB⟩ ⟨Bx, hc, rfl⟩ hlen
    have hx : (x.1.2.k == 3) = false := by rw [beq_eq_false_iff_ne]; exact x.2
    have hx2 : ¬ (x.1.2.k = 3) := x.2
    have hc' : W.drew.cell? ⟨Bx, 1, none⟩ = some (.int .u8 x.1.2.k) := hc
    have h1' := Lib.hid h1
    have hB' := Lib.hid hB
    clear f0 hb4 h1 hB
    have hmix : Tryz.prog.follows .mixedOrders = true := by kernel_rfl
    gi_wp2
    gi_region_with_o (fail)
    all_goals gi_wp2
    all_goals exact ⟨(KeepsOthers.drew W).from _, Kb.drew _ _ _, h1'.out, Below.drew hB'.out⟩
  case done =>
    rintro D ys W hD rfl ⟨⟨h1, h2, h3, h4⟩, hB⟩ hK
    clear f0 hb4
    gi_wp2
    have k1 : (W.setCell ⟨w.heap.size + 1 + 1, 0, none⟩ (.slice none 0 0)).cell? ⟨w.heap.size + 1 + 1, 0, none⟩ = some (.slice none 0 0) := World.cell?_setCell_same' W _ _ (by rw [h1]; rfl)
    have k2 : (W.setCell ⟨w.heap.size + 1 + 1, 0, none⟩ (.slice none 0 0)).cell? ⟨w.heap.size + 1 + 1 + 1, 0, none⟩ = some (.bool false) := by
      rw [World.cell?_setCell_far _ _ _ _ (by simp)]; exact h3
    have hK1 := (KeepsOthers.setCell W ⟨w.heap.size + 1 + 1, 0, none⟩ (.slice none 0 0)).same D _ hK rfl
    have hK2 := (KeepsOthers.setCell (W.setCell ⟨w.heap.size + 1 + 1, 0, none⟩ (.slice none 0 0)) ⟨w.heap.size + 1 + 1 + 1, 0, none⟩ (.bool false)).same D _ hK1 rfl
    refine ⟨by simp, .inl ⟨_, _, rfl, run_takeDeferred hK2, ?_⟩⟩
    have c5 := cell_kept (World.cell?_setCell_same' (W.setCell ⟨w.heap.size + 1 + 1, 0, none⟩ (.slice none 0 0)) ⟨w.heap.size + 1 + 1 + 1, 0, none⟩ (.bool false) (by rw [k2]; rfl)) (grownBy_putObj' _ D (.deferred none)) (fun r e => by cases e; exact ⟨_, hK2, rfl⟩)
    have c6 : ((W.setCell ⟨w.heap.size + 1 + 1, 0, none⟩ (.slice none 0 0)).setCell ⟨w.heap.size + 1 + 1 + 1, 0, none⟩ (.bool false)).cell? ⟨w.heap.size + 1 + 1, 0, none⟩ = some (.slice none 0 0) := by
      rw [World.cell?_setCell_far _ _ _ _ (by simp)]; exact k1
    have c7 := cell_kept c6 (grownBy_putObj' _ D (.deferred none)) (fun r e => by cases e; exact ⟨_, hK2, rfl⟩)
    refine ⟨.tuple #[.slice none 0 0, .bool false], ?_, rfl, ((hB.setCell (p := ⟨w.heap.size + 1 + 1, 0, none⟩) (by simp; omega) _).setCell (p := ⟨w.heap.size + 1 + 1 + 1, 0, none⟩) (by simp; omega) _).trans (belowK_b (w := w) (Nat.le_refl _) _ D _ _ (by simp at hD; omega) hK2 rfl rfl)⟩
    simp [results, Tryz.f120, go_sem, c5, c7]
  case stop =>
    rintro D c pre W _ _ h _
    exact h.elim
end Sim.Mem
