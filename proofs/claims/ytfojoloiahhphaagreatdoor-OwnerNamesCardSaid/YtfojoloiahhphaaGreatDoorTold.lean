import Derived.Test.YtfojoloiahhphaaGreatDoorProg
import Derived.WalkKit
import Derived.LaidEql
import Derived.Stop.Asserts
import Derived.RowKitTokens
import Derived.Test.YtfojoloiahhphaaGreatDoorSimI6
import Derived.RangeFuncNested
import Derived.RangeFuncBound
import Derived.RangeFuncCalls
import Derived.RangeFuncLeaves
import Derived.Shelf.Abstract
import Derived.Shelf.RegionOpen
import Derived.OwnWalkIn
import Derived.TacticsInMore
import Derived.LoopNIn
import Derived.LoopIn
import Derived.IntWalk
import Derived.RangeFuncWrites
import Derived.Maps.AppendAt
import Derived.Laws.IdiomRangeMap
import Derived.Maps.RangeRun
import Derived.Lib.Hide
import Derived.Deep.RegionLaw
import Derived.Test.YtfojoloiahhphaaGreatDoorSimR
/- errors.As at an error that is a number, and at a target of the same type: the target gets it (after the worked toy ToyasAs). -/
namespace Sim.Told
open Go Go.RowKit Go.Extern.Stop Go.Stop Go.Extern Go.Proofs

theorem valueOf159 (t : Addr) (w : World) : (ReflectliteValue.unpack (.iface 159 (.pointer (some t)))).run Tryz.prog w
    = .ok (.agg #[.pointer (some ⟨3, 159, none⟩), .pointer (some ⟨w.heap.size, 0, none⟩), .int .u64 150]) (w.alloc (.cells #[.pointer (some t)] 159)) := by kernel_rfl
theorem type159 (a : Addr) (w : World) : (ReflectliteValue.methodAny (ReflectliteValue.valueError "reflectlite.Value.Type" 0) (fun t _ _ _ => ReflectliteType.toType t) #[.agg #[.pointer (some ⟨3, 159, none⟩), .pointer (some a), .int .u64 150]]).run Tryz.prog w
    = .ok (.iface 314 (.agg #[.pointer (some ⟨3, 159, none⟩)])) w := by kernel_rfl
theorem methodKind (h : Value) (w : World) : (Go.method 557 314 (.agg #[h]) "Kind").run Tryz.prog w = .ok (325, h) w := by kernel_rfl
theorem kind159 (w : World) : ((ReflectliteType.abiMethod fun t => (fun a : Nat => Value.int IntKind.u8 (a : Int)) <$> Rtype.kind t) #[.pointer (some ⟨3, 159, none⟩)]).run Tryz.prog w = .ok (.int .u8 22) w := by kernel_rfl
theorem kind27 (w : World) : ((ReflectliteType.abiMethod fun t => (fun a : Nat => Value.int IntKind.u8 (a : Int)) <$> Rtype.kind t) #[.pointer (some ⟨3, 27, none⟩)]).run Tryz.prog w = .ok (.int .u8 2) w := by kernel_rfl

theorem rlm (z : Sem Value) (f : TypeId → Addr → Nat → Nat → Sem Value) (v : Value) :
    ReflectliteValue.method z f #[v] = (do match ← ReflectliteValue.parts v with | none => z | some (t, a, fl) => f t a fl (fl % 32)) := rfl
theorem parts159 (a : Addr) (w : World) : (ReflectliteValue.parts (.agg #[.pointer (some ⟨3, 159, none⟩), .pointer (some a), .int .u64 150])).run Tryz.prog w = .ok (some (159, a, 150)) w := by kernel_rfl
theorem isNil159 (a p : Addr) (W : World) (ha : W.cell? a = some (.pointer (some p))) :
    (ReflectliteValue.method (ReflectliteValue.valueError "reflectlite.Value.IsNil" 0) ReflectliteValue.isNil #[.agg #[.pointer (some ⟨3, 159, none⟩), .pointer (some a), .int .u64 150]]).run Tryz.prog W = .ok (.bool false) W := by
  rw [rlm]
  simp only [Sem.run_bind, parts159, Result.andThen]
  simp [ReflectliteValue.isNil, loadVar, isAgg, underlying, Tryz.underlying159, ha, Result.andThen]
theorem methodElem (h : Value) (w : World) : (Go.method 557 314 (.agg #[h]) "Elem").run Tryz.prog w = .ok (336, .agg #[h]) w := by kernel_rfl
theorem methodImplements (h : Value) (w : World) : (Go.method 557 314 (.agg #[h]) "Implements").run Tryz.prog w = .ok (337, .agg #[h]) w := by kernel_rfl
theorem methodAssignableTo (h : Value) (w : World) : (Go.method 557 314 (.agg #[h]) "AssignableTo").run Tryz.prog w = .ok (334, .agg #[h]) w := by kernel_rfl
theorem elem159 (w : World) : (ReflectliteType.method ReflectliteType.elem #[.agg #[.pointer (some ⟨3, 159, none⟩)]]).run Tryz.prog w = .ok (.iface 314 (.agg #[.pointer (some ⟨3, 27, none⟩)])) w := by kernel_rfl
theorem implements27 (w : World) : (ReflectliteType.relation "Implements" ReflectliteType.implements_ #[.agg #[.pointer (some ⟨3, 27, none⟩)], .iface 314 (.agg #[.pointer (some ⟨3, 90, none⟩)])]).run Tryz.prog w = .ok (.bool true) w := by kernel_rfl
theorem typeOf27 (v : Value) (w : World) : (ReflectliteType.typeOf #[.iface 27 v]).run Tryz.prog w = .ok (.iface 314 (.agg #[.pointer (some ⟨3, 27, none⟩)])) w := by kernel_rfl
theorem assignable27 (w : World) : (ReflectliteType.relation "AssignableTo" ReflectliteType.assignableTo #[.agg #[.pointer (some ⟨3, 27, none⟩)], .iface 314 (.agg #[.pointer (some ⟨3, 27, none⟩)])]).run Tryz.prog w = .ok (.bool true) w := by kernel_rfl
theorem valueOf27 (n : Int) (w : World) : (ReflectliteValue.unpack (.iface 27 (.int .i64 n))).run Tryz.prog w
    = .ok (.agg #[.pointer (some ⟨3, 27, none⟩), .pointer (some ⟨w.heap.size, 0, none⟩), .int .u64 130]) (w.alloc (.cells #[.int .i64 n] 27)) := by kernel_rfl
theorem elemOf159 (w : World) : (Rtype.elem? 159).run Tryz.prog w = .ok (some 27) w := by kernel_rfl
theorem mk27 (p : Addr) (w : World) : (ReflectliteValue.mk 27 p ReflectliteValue.flagAddr).run Tryz.prog w = .ok (.agg #[.pointer (some ⟨3, 27, none⟩), .pointer (some p), .int .u64 386]) w := by kernel_rfl
theorem elemV159 (a p : Addr) (W : World) (ha : W.cell? a = some (.pointer (some p))) :
    (ReflectliteValue.method (ReflectliteValue.valueError "reflectlite.Value.Elem" 0) ReflectliteValue.elem #[.agg #[.pointer (some ⟨3, 159, none⟩), .pointer (some a), .int .u64 150]]).run Tryz.prog W
      = .ok (.agg #[.pointer (some ⟨3, 27, none⟩), .pointer (some p), .int .u64 386]) W := by
  rw [rlm]
  simp only [Sem.run_bind, parts159, Result.andThen]
  simp [ReflectliteValue.elem, loadVar, isAgg, underlying, Tryz.underlying159, ha, Result.andThen, elemOf159, mk27]
theorem rls (v x : Value) : ReflectliteValue.set #[v, x] = (do
    let (some (dst, a, fl), some (src, b, _)) := (← ReflectliteValue.parts v, ← ReflectliteValue.parts x)
      | unsupported (.noEntry "extern/(internal/reflectlite.Value).Set.zeroValue")
    if fl / ReflectliteValue.flagAddr % 2 == 0 then unsupported (.noEntry "extern/(internal/reflectlite.Value).Set.unaddressable")
    let val ← loadVar src b
    if ← Rtype.directlyAssignable dst src then storeVar dst a val
    else if ← Rtype.implements dst src then
      if (← Rtype.kind src) == 20 then
        match val with
        | .nilIface => unsupported (.noEntry "extern/reflectlite: a nil value of one interface type handed on as a value of another")
        | _ => storeVar dst a val
      else storeVar dst a (.iface src val)
    else panicString ("reflectlite.Set: value of type " ++ (← Rtype.spelt src) ++ " is not assignable to type " ++ (← Rtype.spelt dst))
    pure (.tuple #[])) := rfl
theorem parts27a (a : Addr) (w : World) : (ReflectliteValue.parts (.agg #[.pointer (some ⟨3, 27, none⟩), .pointer (some a), .int .u64 386])).run Tryz.prog w = .ok (some (27, a, 386)) w := by kernel_rfl
theorem parts27 (a : Addr) (w : World) : (ReflectliteValue.parts (.agg #[.pointer (some ⟨3, 27, none⟩), .pointer (some a), .int .u64 130])).run Tryz.prog w = .ok (some (27, a, 130)) w := by kernel_rfl
theorem direct27 (w : World) : (Rtype.directlyAssignable 27 27).run Tryz.prog w = .ok true w := by kernel_rfl
theorem set27 (ta b : Addr) (n : Int) (old : Value) (W : World) (hb : W.cell? b = some (.int .i64 n)) (ht : W.cell? ta = some old) (hf : W.frozen? ta = false) :
    (ReflectliteValue.set #[.agg #[.pointer (some ⟨3, 27, none⟩), .pointer (some ta), .int .u64 386], .agg #[.pointer (some ⟨3, 27, none⟩), .pointer (some b), .int .u64 130]]).run Tryz.prog W
      = .ok (.tuple #[]) (W.setCell ta (.int .i64 n)) := by
  rw [rls]
  simp only [Sem.run_bind, parts27a, parts27, Result.andThen]
  simp [ReflectliteValue.flagAddr, loadVar, isAgg, underlying, Tryz.underlying27, hb, Result.andThen, direct27, storeVar, Value.cells, storeCells, Addr.add]
  rw [run_store Tryz.prog W ta _ _ (by rfl)]
  simp [ht, hf]
end Sim.Told

namespace Sim.Told
open Go Go.RowKit Go.Extern.Stop Go.Stop Go.Extern Go.Proofs

theorem cell_lt {w : World} {a : Addr} {v : Value} (h : w.cell? a = some v) : a.block < w.heap.size := by
  rcases Nat.lt_or_ge a.block w.heap.size with k | k
  · exact k
  · simp [World.cell?, Array.getElem?_eq_none k] at h
abbrev W1 (a : Addr) (w : World) : World := w.alloc (.cells #[.pointer (some ⟨3, 159, none⟩), .pointer (some a), .int .u64 150] 232)
abbrev V2 (t : Addr) (w : World) : World := (w.alloc (.cells #[.pointer (some t)] 159)).alloc (.cells #[.pointer (some ⟨3, 159, none⟩), .pointer (some ⟨w.heap.size, 0, none⟩), .int .u64 150] 232)
abbrev W2 (n : Int) (a : Addr) (w : World) : World := (W1 a w).alloc (.cells #[.int .i64 n] 27)

set_option maxHeartbeats 4000000 in
set_option maxRecDepth 100000 in
theorem as_in (n : Int) (t a : Addr) (old : Value) (w : World) (ha : w.cell? a = some (.pointer (some t))) (ht0 : w.cell? t = some old) (hf0 : w.frozen? t = false) :
    Calls Tryz.prog 130 #[.iface 27 (.int .i64 n), .iface 159 (.pointer (some t)), .agg #[.pointer (some ⟨3, 159, none⟩), .pointer (some a), .int .u64 150], .iface 314 (.agg #[.pointer (some ⟨3, 27, none⟩)])] w
      fun ev w' => ev = .returned (.bool true) ∧ w' = (W2 n a w).setCell t (.int .i64 n) := by
  have h127 := @run_callFunc_extern Tryz.prog 127 _ (fun args => ReflectliteValue.unpack (args.getD 0 (.tuple #[]))) Tryz.func127 (by kernel_rfl) (by kernel_rfl) (by kernel_rfl) (by kernel_rfl)
  have h188 := @run_callFunc_extern Tryz.prog 188 _ ReflectliteType.typeOf Tryz.func188 (by kernel_rfl) (by kernel_rfl) (by kernel_rfl) (by kernel_rfl)
  have h334 := @run_callFunc_extern Tryz.prog 334 _ (ReflectliteType.relation "AssignableTo" ReflectliteType.assignableTo) Tryz.func334 (by kernel_rfl) (by kernel_rfl) (by kernel_rfl) (by kernel_rfl)
  have h189 := @run_callFunc_extern Tryz.prog 189 _ (ReflectliteValue.method (ReflectliteValue.valueError "reflectlite.Value.Elem" 0) ReflectliteValue.elem) Tryz.func189 (by kernel_rfl) (by kernel_rfl) (by kernel_rfl) (by kernel_rfl)
  have h190 := @run_callFunc_extern Tryz.prog 190 _ ReflectliteValue.set Tryz.func190 (by kernel_rfl) (by kernel_rfl) (by kernel_rfl) (by kernel_rfl)
  have tO := typeOf27
  have mA := methodAssignableTo
  have a25 := assignable27
  have v25 := valueOf27
  have hla := cell_lt ha
  have hlt := cell_lt ht0
  have el := elemV159 a t (W1 a w) (by rw [World.cell?_alloc_lt _ _ a hla]; exact ha)
  have st := set27 t ⟨w.heap.size + 1, 0, none⟩ n old (W2 n a w)
    (by rw [World.cell?_alloc_at _ _ _ _ (by simp)]; rfl)
    (by rw [World.cell?_alloc_lt _ _ t (by simp; omega), World.cell?_alloc_lt _ _ t hlt]; exact ht0)
    (by rw [World.frozen?_alloc_old _ _ t (by simp; omega), World.frozen?_alloc_old _ _ t (Nat.ne_of_lt hlt)]; exact hf0)
  go_enter Tryz.func130, Tryz.ntmps130
  go_wp2
  refine wp_loop_rounds 1 ?_
  rw [rounds_succ]
  go_wp2
  go_ret
  exact ⟨rfl, rfl⟩
set_option maxHeartbeats 4000000 in
set_option maxRecDepth 100000 in
theorem as_hit (n : Int) (t : Addr) (old : Value) (w : World) (hg : w.cell? ⟨0, 0, none⟩ = some (.iface 314 (.agg #[.pointer (some ⟨3, 90, none⟩)]))) (ht0 : w.cell? t = some old) (hf0 : w.frozen? t = false) :
    Calls Tryz.prog 73 #[.iface 27 (.int .i64 n), .iface 159 (.pointer (some t))] w fun ev w' => ev = .returned (.bool true) ∧ w' = (W2 n ⟨w.heap.size, 0, none⟩ (V2 t w)).setCell t (.int .i64 n) := by
  have h127 := @run_callFunc_extern Tryz.prog 127 _ (fun args => ReflectliteValue.unpack (args.getD 0 (.tuple #[]))) Tryz.func127 (by kernel_rfl) (by kernel_rfl) (by kernel_rfl) (by kernel_rfl)
  have h128 := @run_callFunc_extern Tryz.prog 128 _ (ReflectliteValue.methodAny (ReflectliteValue.valueError "reflectlite.Value.Type" 0) (fun t _ _ _ => ReflectliteType.toType t)) Tryz.func128 (by kernel_rfl) (by kernel_rfl) (by kernel_rfl) (by kernel_rfl)
  have h129 := @run_callFunc_extern Tryz.prog 129 _ (ReflectliteValue.method (ReflectliteValue.valueError "reflectlite.Value.IsNil" 0) ReflectliteValue.isNil) Tryz.func129 (by kernel_rfl) (by kernel_rfl) (by kernel_rfl) (by kernel_rfl)
  have h325 := @run_callFunc_extern Tryz.prog 325 _ (ReflectliteType.abiMethod fun t => do pure (.int .u8 (← Rtype.kind t))) Tryz.func325 (by kernel_rfl) (by kernel_rfl) (by kernel_rfl) (by kernel_rfl)
  have h336 := @run_callFunc_extern Tryz.prog 336 _ (ReflectliteType.method ReflectliteType.elem) Tryz.func336 (by kernel_rfl) (by kernel_rfl) (by kernel_rfl) (by kernel_rfl)
  have h337 := @run_callFunc_extern Tryz.prog 337 _ (ReflectliteType.relation "Implements" ReflectliteType.implements_) Tryz.func337 (by kernel_rfl) (by kernel_rfl) (by kernel_rfl) (by kernel_rfl)
  have f6 := valueOf159
  have f7 := type159
  have mK := methodKind
  have mE := methodElem
  have mI := methodImplements
  have k27 := kind159
  have k25 := kind27
  have e27 := elem159
  have i25 := implements27
  have hlt := cell_lt ht0
  have hl0 := cell_lt hg
  have n8 := isNil159 ⟨w.heap.size, 0, none⟩ t (V2 t w) (by simp)
  have hg2 : (V2 t w).cell? ⟨0, 0, none⟩ = some (.iface 314 (.agg #[.pointer (some ⟨3, 90, none⟩)])) := by
    rw [World.cell?_alloc_lt _ _ ⟨0, 0, none⟩ (by simp), World.cell?_alloc_lt _ _ ⟨0, 0, none⟩ hl0]; exact hg
  have hc := as_in n t ⟨w.heap.size, 0, none⟩ old (V2 t w) (by simp)
    (by rw [World.cell?_alloc_lt _ _ t (by simp; omega), World.cell?_alloc_lt _ _ t hlt]; exact ht0)
    (by rw [World.frozen?_alloc_old _ _ t (by simp; omega), World.frozen?_alloc_old _ _ t (Nat.ne_of_lt hlt)]; exact hf0)
  go_enter Tryz.func73, Tryz.ntmps73
  go_wp2_with (first | (go_at_call 130; refine hc.mono ?_; rintro e w' ⟨rfl, rfl⟩))
  go_ret
  exact ⟨rfl, rfl⟩
end Sim.Told


namespace Sim.Told
open Go Go.RowKit Go.Extern.Stop Go.Stop Go.Extern Go.Proofs


set_option maxHeartbeats 4000000 in
set_option maxRecDepth 100000 in
theorem told (n : Int) (w : World) (hg : w.cell? ⟨0, 0, none⟩ = some (.iface 314 (.agg #[.pointer (some ⟨3, 90, none⟩)]))) :
    Calls Tryz.prog 29 #[.iface 27 (.int .i64 n)] w fun ev w' => ev = .returned (.int .i64 n) ∧ Below w.heap.size w w' := by
  have hl0 := cell_lt hg
  have hc := as_hit n ⟨w.heap.size, 0, none⟩ (.int .i64 0) (w.alloc (.cells #[.int .i64 0] 27)) (by rw [World.cell?_alloc_lt _ _ ⟨0, 0, none⟩ hl0]; exact hg) (by simp) (by simp)
  go_enter Tryz.func29, Tryz.ntmps29
  go_wp2_with (first | (go_at_call 73; refine hc.mono ?_; rintro e w' ⟨rfl, rfl⟩))
  go_ret
  refine ⟨rfl, ?_⟩
  exact ((((Below.refl _ w).alloc (Nat.le_refl _) _).alloc (by simp; try omega) _).alloc (by simp; try omega) _).alloc (by simp; try omega) _ |>.alloc (by simp; try omega) _
end Sim.Told

/- shard.told at an error that is a number, as an intrinsic. -/
namespace Sim
open Go Go.Proofs
noncomputable def toldG (F : FunX) : FunX := fun call args st => match args with
  | [.iface t (.int k n)] => bsel (Bool.and (Nat.beq t 27) (kbeq k .i64)) (.ok (.int .i64 n) st) (F call args st)
  | _ => F call args st
theorem toldG_sound {call : CallF} {F : FunX} (hm : Tryz.prog.follows .mixedOrders = true) (hF : funXK Tryz.prog 29 = some F) (hc : CallSound Tryz.prog call) (args : List CV) (st : St) (v : CV) (st' : St) (h : toldG F call args st = .ok v st') : CallOut Tryz.prog 29 args st v st' := by
  unfold toldG at h
  split at h
  · rename_i t k n
    rw [bsel_eq] at h
    split at h
    · rename_i hh
      rw [Bool.and_eq_true, Nat.beq_eq, kbeq_iff] at hh
      obtain ⟨rfl, rfl⟩ := hh
      cases h
      refine .inl ⟨by kernel_rfl, fun ρ w args' hw ha => ?_⟩
      obtain ⟨x', t', e1, hx, ha2⟩ := ha.inv
      have e3 : t' = [] := by have := ha2.len; simpa using this.symm
      subst e3
      have e4 : args' = #[x'] := by rw [← Array.toArray_toList (xs := args'), e1]
      subst e4
      cases hx with
      | iface _ _ y hy =>
        cases hy
        refine (Told.told n w ((hw.glob 0 _ (by simp [globs])).1)).mono ?_
        rintro e w' ⟨rfl, hb⟩
        exact ⟨_, ρ, rfl, .int _ _, After.below hw hb⟩
    · exact .inl (funXK_plain hm hF hc h)
  · exact .inl (funXK_plain hm hF hc h)
end Sim

/- A table of leases that has one at most: what it has out. -/
namespace Sim.Lease
open Go Go.RowKit Go.Shelf Go.Proofs
set_option linter.unusedVariables false
attribute [local go_sem] Oper.semAt_some

theorem hp_new (w : World) (o : Obj) : (w.alloc o).heap[w.heap.size]? = some o := by
  show (w.heap.push o)[w.heap.size]? = _
  simp
theorem hp_old (w : World) (o : Obj) (i : Nat) (h : i < w.heap.size) : (w.alloc o).heap[i]? = w.heap[i]? := by
  show (w.heap.push o)[i]? = _
  rw [Array.getElem?_push, if_neg (by omega)]
theorem out_in (n : Nat) (p0 : Option Addr) (now : Int) (w : World) :
    CallsIn Fence.wide n Tryz.prog 114 #[.pointer p0, .int .i64 now] w fun e w' => e = .returned (.func (.func 176) #[] #[.pointer (some ⟨w.heap.size, 0, none⟩), .pointer (some ⟨w.heap.size + 1, 0, none⟩)]) ∧
      w' = (w.alloc (.cells #[.pointer p0] 124)).alloc (.cells #[.int .i64 now] 3) := by
  refine callsIn_of_wp Tryz.func114 rfl trivial ?_ rfl
  simp only [Tryz.ntmps114, List.size_toArray, List.length_cons, List.length_nil, Nat.reduceAdd, Nat.reduceSub, Array.replicate_succ, Array.replicate_zero, List.push_toArray, List.append_toArray, List.nil_append, List.cons_append]
  gi_wp2
  go_ret
  exact ⟨rfl, rfl⟩

/- sorting where there is one at most -/
theorem ins_small (v cmp : Value) (n : Int) (h0 : 0 ≤ n) (h1 : n ≤ 1) (w : World) : Calls Tryz.prog 260 #[v, .int .i64 0, .int .i64 n, cmp] w fun e w' => e = .returned (.tuple #[]) ∧ w' = w := by
  have hn : ¬ (1 < n) := by omega
  go_enter Tryz.func260, Tryz.ntmps260
  go_wp2
  refine wp_loop_rounds 1 ?_
  rw [rounds_succ]
  go_wp2
  go_end0
  exact ⟨rfl, rfl⟩
theorem pdq_small (v cmp b : Value) (n : Int) (h0 : 0 ≤ n) (h1 : n ≤ 1) (w : World) : Calls Tryz.prog 230 #[v, .int .i64 0, .int .i64 n, b, cmp] w fun e w' => e = .returned (.tuple #[]) ∧ w' = w := by
  have hn : n ≤ 12 := by omega
  have hs : IntKind.i64.wrap (n - 0) = n := by rw [Int.sub_zero]; exact IntWalk.i64_in _ (by omega)
  go_enter Tryz.func230, Tryz.ntmps230
  go_wp2
  refine wp_loop_rounds 1 ?_
  rw [rounds_succ]
  go_wp2_with (first | (go_at_call 260; refine (ins_small _ _ n h0 h1 _).mono ?_; rintro e w' ⟨rfl, rfl⟩))
  refine bodyPost_ret (results_none rfl _ _ _) rfl ?_
  exact ⟨rfl, rfl⟩
set_option maxRecDepth 100000 in
theorem len64_0 (w : World) : Calls Tryz.prog 269 #[.int .u64 0] w fun e w' => e = .returned (.int .i64 0) ∧ w' = w := by
  go_enter Tryz.func269, Tryz.ntmps269
  go_wp2
  go_ret
  exact ⟨by kernel_rfl, rfl⟩
set_option maxRecDepth 100000 in
theorem len64_1 (w : World) : Calls Tryz.prog 269 #[.int .u64 1] w fun e w' => e = .returned (.int .i64 1) ∧ w' = w := by
  go_enter Tryz.func269, Tryz.ntmps269
  go_wp2
  go_ret
  exact ⟨by kernel_rfl, rfl⟩
theorem len_small (n : Nat) (h1 : n ≤ 1) (w : World) : Calls Tryz.prog 231 #[.int .u64 n] w fun e w' => e = .returned (.int .i64 n) ∧ w' = w := by
  have hc : Calls Tryz.prog 269 #[.int .u64 n] w fun e w' => e = .returned (.int .i64 n) ∧ w' = w := by
    rcases Nat.le_one_iff_eq_zero_or_eq_one.1 h1 with rfl | rfl
    · exact len64_0 w
    · exact len64_1 w
  go_enter Tryz.func231, Tryz.ntmps231
  go_wp2_with (first | (go_at_call 269; refine hc.mono ?_; rintro e w' ⟨rfl, rfl⟩))
  go_ret
  exact ⟨rfl, rfl⟩
theorem sort_small (a : Option Addr) (cap : Nat) (cmp : Value) (n : Nat) (h1 : n ≤ 1) (w : World) : Calls Tryz.prog 174 #[.slice a n cap, cmp] w fun e w' => e = .returned (.tuple #[]) ∧ w' = w := by
  go_enter Tryz.func174, Tryz.ntmps174
  go_wp2_with (first | (go_at_call 231; refine (len_small n h1 _).mono ?_; rintro e w' ⟨rfl, rfl⟩) | (go_at_call 230; refine (pdq_small _ _ _ n (by omega) (by omega) _).mono ?_; rintro e w' ⟨rfl, rfl⟩))
  go_end0
  exact ⟨rfl, rfl⟩
end Sim.Lease

namespace Sim.Lease
open Go Go.RowKit Go.Shelf Go.Proofs
set_option linter.unusedVariables false
attribute [local go_sem] Oper.semAt_some

theorem next_none (W : World) (ty : TypeId) (r mb since c0 : Nat) (seen : Array Nat) (es : Array MapEntry) (clock : Nat) (hr : W.heap[r]? = some (.mapIter (some mb) since seen c0)) (hb : W.heap[mb]? = some (.map es clock)) (hold : ∀ x ∈ es.toList, x.born < since) (hsc : since ≤ c0)
    (hl : (leftOf es seen).size = 0) : (Instr.next (.pointer (some ⟨r, 0, none⟩)) false ty).run Tryz.prog W = .ok (.tuple #[.bool false]) W := by
  rcases run_next_at (P := Tryz.prog) W ty r mb since c0 seen es clock hr hb hold hsc with ⟨_, h⟩ | ⟨e, he, _⟩
  · exact h
  · have : (leftOf es seen).toList.length = 0 := by simpa using hl
    rw [List.eq_nil_of_length_eq_zero this] at he; cases he

set_option maxRecDepth 100000 in
set_option maxHeartbeats 2000000 in
theorem out1_zero (n l B1 B2 b mb clock : Nat) (hn : 1 ≤ n) (now : Int) (J : List Value → World → Prop)
    (W : World) (hJ : AbidesFrom W.heap.size J) (hB1 : W.cell? ⟨B1, 0, none⟩ = some (.pointer (some ⟨b, 0, none⟩))) (hB2 : W.cell? ⟨B2, 0, none⟩ = some (.int .i64 now))
    (hm : W.cell? ⟨b, 4, none⟩ = some (.map (some mb))) (hh : W.heap[mb]? = some (.map #[] clock)) (h0 : J [] W) :
    CallsIn Fence.wide n Tryz.prog 176 #[.func (.yield l) #[] #[], .pointer (some ⟨B1, 0, none⟩), .pointer (some ⟨B2, 0, none⟩)] W fun e W' => (∃ v, e = .returned v) ∧ J [] W' := by
  have hJ1 : J [] (W.alloc (.mapIter (some mb) clock #[] clock)) := hJ [] W _ none h0 (World.grownBy_alloc _ _ _) (fun r e => by cases e)
  have hr := run_range_map (P := Tryz.prog) W 189 _ _ mb #[] clock Tryz.underlying189 hh
  have hlt : mb < W.heap.size := (Array.getElem?_eq_some_iff.1 hh).1
  have hnx := fun ty => next_none (W.alloc (.mapIter (some mb) clock #[] clock)) ty W.heap.size mb clock clock #[] #[] clock (hp_new W _) ((hp_old W _ mb hlt).trans hh) (by simp) (Nat.le_refl _) rfl
  refine callsIn_of_wp Tryz.func176 rfl trivial ?_ rfl
  simp only [Tryz.ntmps176, List.size_toArray, List.length_cons, List.length_nil, Nat.reduceAdd, Nat.reduceSub, Array.replicate_succ, Array.replicate_zero, List.push_toArray, List.append_toArray, List.nil_append, List.cons_append]
  gi_wp2
  refine wpIn_loop_rounds 1 ?_
  rw [roundsIn_succ]
  gi_wp2
  go_end0
  exact ⟨⟨_, rfl⟩, hJ1⟩
end Sim.Lease

namespace Sim.Lease
open Go Go.RowKit Go.Shelf Go.Proofs
set_option linter.unusedVariables false
attribute [local go_sem] Oper.semAt_some

theorem next_one (W : World) (ty : TypeId) (r mb since c0 : Nat) (e : MapEntry) (clock : Nat) (hr : W.heap[r]? = some (.mapIter (some mb) since #[] c0)) (hb : W.heap[mb]? = some (.map #[e] clock)) (ho : e.born < since) :
    (Instr.next (.pointer (some ⟨r, 0, none⟩)) false ty).run Tryz.prog W = .ok (.tuple #[.bool true, e.key, e.val]) (W.putObj r (.mapIter (some mb) since #[e.born] clock)) := by
  have h2 : ¬ (since ≤ e.born) := by omega
  simp [Instr.next, getObj, setObj, Sem.run_bind, Sem.run, hr, hb, Result.andThen, choose, Question.forced, ho, h2, World.putObj, Array.isEmpty]

/-- What a round keeps. -/
structure Kq (n₀ : Nat) (W W' : World) : Prop where
  below : Below n₀ W W'
  walks : KeepsWalks W W'
theorem Kq.refl (n₀ : Nat) (W : World) : Kq n₀ W W := ⟨Below.refl _ _, KeepsWalks.refl _⟩
theorem Kq.trans {n₀ : Nat} {A B C : World} (h : Kq n₀ A B) (k : Kq n₀ B C) : Kq n₀ A C := ⟨h.below.trans k.below, h.walks.trans k.walks⟩
theorem Kq.putObj {n₀ : Nat} {w : World} (hn : n₀ ≤ w.heap.size) (W : World) (l : Nat) (o o' : Obj) (hl : w.heap.size ≤ l) (hW : W.heap[l]? = some o) (ho : o.isCells = false) (hk : o.isWalk = false) : Kq n₀ W (W.putObj l o') :=
  ⟨belowK_b hn W l o o' hl hW ho hk, walksK_b W l o o' hl hW ho hk⟩
def lv (k : ByteArray) (c m t : Int) : Value := .agg #[.string k, .int .i64 c, .int .i64 m, .int .i64 t]

set_option maxRecDepth 100000 in
set_option maxHeartbeats 2000000 in
theorem out1_skip (n l B1 B2 b mb clock : Nat) (hn : 1 ≤ n) (now : Int) (key : Value) (bn : Nat) (k : ByteArray) (c m t : Int) (hbn : bn < clock) (hnow : ¬ now < t) (J : List Value → World → Prop)
    (W : World) (hJ : AbidesFrom W.heap.size J) (hB1 : W.cell? ⟨B1, 0, none⟩ = some (.pointer (some ⟨b, 0, none⟩))) (hB2 : W.cell? ⟨B2, 0, none⟩ = some (.int .i64 now))
    (hm : W.cell? ⟨b, 4, none⟩ = some (.map (some mb))) (hh : W.heap[mb]? = some (.map #[⟨key, lv k c m t, bn⟩] clock)) (h0 : J [] W) :
    CallsIn Fence.wide n Tryz.prog 176 #[.func (.yield l) #[] #[], .pointer (some ⟨B1, 0, none⟩), .pointer (some ⟨B2, 0, none⟩)] W fun e W' => (∃ v, e = .returned v) ∧ J [] W' := by
  have hJ1 : J [] (W.alloc (.mapIter (some mb) clock #[] clock)) := hJ [] W _ none h0 (World.grownBy_alloc _ _ _) (fun r e => by cases e)
  have hr := run_range_map (P := Tryz.prog) W 189 _ _ mb _ clock Tryz.underlying189 hh
  have hlt : mb < W.heap.size := (Array.getElem?_eq_some_iff.1 hh).1
  have hnx := fun ty => next_one (W.alloc (.mapIter (some mb) clock #[] clock)) ty W.heap.size mb clock clock ⟨key, lv k c m t, bn⟩ clock (hp_new W _) ((hp_old W _ mb hlt).trans hh) hbn
  obtain ⟨W1, hW1⟩ : ∃ W1, (W.alloc (.mapIter (some mb) clock #[] clock)).putObj W.heap.size (.mapIter (some mb) clock #[bn] clock) = W1 := ⟨_, rfl⟩
  have hs1 : W1.heap.size = W.heap.size + 1 := by rw [← hW1]; simp [World.putObj]
  have hlow : ∀ k, k < W.heap.size → W1.heap[k]? = W.heap[k]? := fun k hk => by
    rw [← hW1, World.putObj_heap_other (by omega), hp_old W _ k hk]
  have hat : W1.heap[W.heap.size]? = some (.mapIter (some mb) clock #[bn] clock) := by rw [← hW1, World.putObj_heap_same (by simp)]
  have hJ2 : J [] W1 := by
    rw [← hW1]
    exact hJ [] _ _ (some W.heap.size) hJ1 (grownBy_putObj' _ _ _) (fun r e => by cases e; exact ⟨Nat.le_refl _, _, hp_new W _, rfl⟩)
  have hJ3 : J [] ((W1.alloc (.cells #[.string k, .int .i64 c, .int .i64 m, .int .i64 t] 201))) := hJ [] _ _ none hJ2 (World.grownBy_alloc _ _ _) (fun r e => by cases e)
  have hen := run_entry_at (P := Tryz.prog) W1 W.heap.size mb clock #[] #[⟨key, lv k c m t, bn⟩] clock ⟨key, lv k c m t, bn⟩ hat ((hlow mb hlt).trans hh) (by simp) (by simp)
  have hlB2 := (show B2 < W.heap.size from Decidable.byContradiction fun h => by simp [World.cell?, Array.getElem?_eq_none (Nat.le_of_not_lt h)] at hB2)
  have hB2' : W1.cell? ⟨B2, 0, none⟩ = some (.int .i64 now) := by simp only [World.cell?, hlow B2 hlB2] at hB2 ⊢; exact hB2
  have hsz2 : W.heap.size < W1.heap.size := by omega
  have hnx2 := fun ty => next_none (W1.alloc (.cells #[.string k, .int .i64 c, .int .i64 m, .int .i64 t] 201)) ty W.heap.size mb clock clock #[bn] #[⟨key, lv k c m t, bn⟩] clock ((hp_old W1 _ _ hsz2).trans hat) ((hp_old W1 _ mb (by omega)).trans ((hlow mb hlt).trans hh)) (by simp; exact hbn) (Nat.le_refl _) (by simp [leftOf])
  rw [hW1] at hnx
  simp only [lv] at hen hnx
  refine callsIn_of_wp Tryz.func176 rfl trivial ?_ rfl
  simp only [Tryz.ntmps176, List.size_toArray, List.length_cons, List.length_nil, Nat.reduceAdd, Nat.reduceSub, Array.replicate_succ, Array.replicate_zero, List.push_toArray, List.append_toArray, List.nil_append, List.cons_append]
  gi_wp2
  refine wpIn_loop_rounds 2 ?_
  rw [roundsIn_succ]
  gi_wp2
  refine ⟨fun _ h => (by cases h), ?_⟩
  gi_wp2
  rw [roundsIn_succ]
  gi_wp2
  go_end0
  exact ⟨⟨_, rfl⟩, hJ3⟩
end Sim.Lease

namespace Sim.Lease
open Go Go.RowKit Go.Shelf Go.Proofs
set_option linter.unusedVariables false
attribute [local go_sem] Oper.semAt_some

set_option maxRecDepth 100000 in
set_option maxHeartbeats 2000000 in
theorem out1_yield (n l B1 B2 b mb clock : Nat) (hn : 1 ≤ n) (now : Int) (key : Value) (bn : Nat) (k : ByteArray) (c m t : Int) (hbn : bn < clock) (hnow : now < t) (n₀ : Nat) (hmb : mb < n₀) (J Jx : List Value → World → Prop)
    (hY : ∀ W1, J [] W1 → YieldAt Fence.wide (n - 1) Tryz.prog l #[lv k c m t] W1 fun e W' => (e = .returned (.bool true) ∧ J [lv k c m t] W' ∧ Kq n₀ W1 W') ∨ (e = .returned (.bool false) ∧ Jx [lv k c m t] W'))
    (W : World) (hJ : AbidesFrom W.heap.size J) (hB1 : W.cell? ⟨B1, 0, none⟩ = some (.pointer (some ⟨b, 0, none⟩))) (hB2 : W.cell? ⟨B2, 0, none⟩ = some (.int .i64 now))
    (hm : W.cell? ⟨b, 4, none⟩ = some (.map (some mb))) (hh : W.heap[mb]? = some (.map #[⟨key, lv k c m t, bn⟩] clock)) (h0 : J [] W) :
    CallsIn Fence.wide n Tryz.prog 176 #[.func (.yield l) #[] #[], .pointer (some ⟨B1, 0, none⟩), .pointer (some ⟨B2, 0, none⟩)] W fun e W' => (∃ v, e = .returned v) ∧ (J [lv k c m t] W' ∨ Jx [lv k c m t] W') := by
  have hJ1 : J [] (W.alloc (.mapIter (some mb) clock #[] clock)) := hJ [] W _ none h0 (World.grownBy_alloc _ _ _) (fun r e => by cases e)
  have hr := run_range_map (P := Tryz.prog) W 189 _ _ mb _ clock Tryz.underlying189 hh
  have hlt : mb < W.heap.size := (Array.getElem?_eq_some_iff.1 hh).1
  have hnx := fun ty => next_one (W.alloc (.mapIter (some mb) clock #[] clock)) ty W.heap.size mb clock clock ⟨key, lv k c m t, bn⟩ clock (hp_new W _) ((hp_old W _ mb hlt).trans hh) hbn
  obtain ⟨W1, hW1⟩ : ∃ W1, (W.alloc (.mapIter (some mb) clock #[] clock)).putObj W.heap.size (.mapIter (some mb) clock #[bn] clock) = W1 := ⟨_, rfl⟩
  have hs1 : W1.heap.size = W.heap.size + 1 := by rw [← hW1]; simp [World.putObj]
  have hlow : ∀ k, k < W.heap.size → W1.heap[k]? = W.heap[k]? := fun k hk => by
    rw [← hW1, World.putObj_heap_other (by omega), hp_old W _ k hk]
  have hat : W1.heap[W.heap.size]? = some (.mapIter (some mb) clock #[bn] clock) := by rw [← hW1, World.putObj_heap_same (by simp)]
  have hJ2 : J [] W1 := by
    rw [← hW1]
    exact hJ [] _ _ (some W.heap.size) hJ1 (grownBy_putObj' _ _ _) (fun r e => by cases e; exact ⟨Nat.le_refl _, _, hp_new W _, rfl⟩)
  have hJ3 : J [] ((W1.alloc (.cells #[.string k, .int .i64 c, .int .i64 m, .int .i64 t] 201))) := hJ [] _ _ none hJ2 (World.grownBy_alloc _ _ _) (fun r e => by cases e)
  have hen := run_entry_at (P := Tryz.prog) W1 W.heap.size mb clock #[] #[⟨key, lv k c m t, bn⟩] clock ⟨key, lv k c m t, bn⟩ hat ((hlow mb hlt).trans hh) (by simp) (by simp)
  have hlB2 := (show B2 < W.heap.size from Decidable.byContradiction fun h => by simp [World.cell?, Array.getElem?_eq_none (Nat.le_of_not_lt h)] at hB2)
  have hB2' : W1.cell? ⟨B2, 0, none⟩ = some (.int .i64 now) := by simp only [World.cell?, hlow B2 hlB2] at hB2 ⊢; exact hB2
  have hsz2 : W.heap.size < W1.heap.size := by omega
  have hnx2 := fun ty => next_none (W1.alloc (.cells #[.string k, .int .i64 c, .int .i64 m, .int .i64 t] 201)) ty W.heap.size mb clock clock #[bn] #[⟨key, lv k c m t, bn⟩] clock ((hp_old W1 _ _ hsz2).trans hat) ((hp_old W1 _ mb (by omega)).trans ((hlow mb hlt).trans hh)) (by simp; exact hbn) (Nat.le_refl _) (by simp [leftOf])
  obtain ⟨fn, tmps, assign, body, hy, hR⟩ := hY _ hJ3
  have hR2 := hR.mono (R' := fun e W' => ∃ bb, e = .returned (.bool bb) ∧ ((bb = true ∧ J [lv k c m t] W' ∧ Kq n₀ (W1.alloc (.cells #[.string k, .int .i64 c, .int .i64 m, .int .i64 t] 201)) W') ∨ (bb = false ∧ Jx [lv k c m t] W'))) (by
    rintro e W' (⟨rfl, h1, h2⟩ | ⟨rfl, h1⟩)
    · exact ⟨true, rfl, .inl ⟨rfl, h1, h2⟩⟩
    · exact ⟨false, rfl, .inr ⟨rfl, h1⟩⟩)
  have hR' := Lib.hid hR2
  clear hR hR2 hY hnx2
  rw [hW1] at hnx
  simp only [lv] at hen hnx hy
  refine callsIn_of_wp Tryz.func176 rfl trivial ?_ rfl
  simp only [Tryz.ntmps176, List.size_toArray, List.length_cons, List.length_nil, Nat.reduceAdd, Nat.reduceSub, Array.replicate_succ, Array.replicate_zero, List.push_toArray, List.append_toArray, List.nil_append, List.cons_append]
  gi_wp2
  refine wpIn_loop_rounds 2 ?_
  rw [roundsIn_succ]
  gi_wp2
  refine hR'.out.mono ?_
  rintro e W3 ⟨bb, rfl, hpo⟩
  rcases hpo with ⟨rfl, hJ4, hk⟩ | ⟨rfl, hJ4⟩
  · have h4 := hk.walks.same W.heap.size _ ((hp_old W1 _ _ hsz2).trans hat) rfl
    have h5 := (hk.below.block mb hmb).trans ((hp_old W1 _ mb (by omega)).trans ((hlow mb hlt).trans hh))
    have hnx3 := fun ty => next_none W3 ty W.heap.size mb clock clock #[bn] #[⟨key, lv k c m t, bn⟩] clock h4 h5 (by simp; exact hbn) (Nat.le_refl _) (by simp [leftOf])
    clear h4 h5 hk
    gi_wp2
    rw [roundsIn_succ]
    gi_wp2
    go_end0
    exact ⟨⟨_, rfl⟩, .inl hJ4⟩
  · gi_wp2
    refine bodyPost_ret (results_none rfl _ _ _) rfl ?_
    exact ⟨⟨_, rfl⟩, .inr hJ4⟩
end Sim.Lease

namespace Sim.Lease
open Go Go.RowKit Go.Shelf Go.Proofs
set_option linter.unusedVariables false
attribute [local go_sem] Oper.semAt_some

/-- A lease, in mind. -/
structure L4 where
  k : ByteArray
  c : Int
  m : Int
  t : Int
def L4.v (x : L4) : Value := lv x.k x.c x.m x.t
/-- A map of leases with one entry at most. -/
inductive One (clock : Nat) : Array MapEntry → Option L4 → Prop
  | none : One clock #[] none
  | one (key : Value) (x : L4) (bn : Nat) (h : bn < clock) : One clock #[⟨key, x.v, bn⟩] (some x)
/-- What is out, in mind. -/
def outL (now : Int) : Option L4 → List L4
  | none => []
  | some x => if now < x.t then [x] else []
theorem outL_le (now : Int) (o : Option L4) : (outL now o).length ≤ 1 := by
  cases o with
  | none => simp [outL]
  | some x => simp only [outL]; split <;> simp
def J2 (J : List L4 → World → Prop) (x : L4) : List Value → World → Prop
  | [] => J []
  | _ :: _ => J [x]
theorem J2_abides {B : Nat} {J : List L4 → World → Prop} (h : AbidesFrom B J) (x : L4) : AbidesFrom B (J2 J x) := by
  intro s W W' row hs hg hr
  cases s with
  | nil => exact h [] W W' row hs hg hr
  | cons a l => exact h [x] W W' row hs hg hr
theorem out_stops (n : Nat) (hn : 1 ≤ n) (B1 B2 b mb clock n₀ : Nat) (now : Int) (es : Array MapEntry) (o : Option L4) (ho : One clock es o) (hmb : mb < n₀) (hb : b < n₀)
    (w : World) (hsz : n₀ ≤ w.heap.size) (hB1 : w.cell? ⟨B1, 0, none⟩ = some (.pointer (some ⟨b, 0, none⟩))) (hB2 : w.cell? ⟨B2, 0, none⟩ = some (.int .i64 now)) (hl1 : B1 < w.heap.size) (hl2 : B2 < w.heap.size)
    (hm : w.cell? ⟨b, 4, none⟩ = some (.map (some mb))) (hh : w.heap[mb]? = some (.map es clock)) :
    SeqStopsK Fence.wide n Tryz.prog 176 #[.pointer (some ⟨B1, 0, none⟩), .pointer (some ⟨B2, 0, none⟩)] (fun x : L4 => #[x.v]) (Kq n₀) (fun ys => ys = outL now o) (fun pre => pre = outL now o) 1 w := by
  intro l J Jx W hW hJ hJx hY h0
  have c1 := (hW.cell (p := ⟨B1, 0, none⟩) hl1).trans hB1
  have c2 := (hW.cell (p := ⟨B2, 0, none⟩) hl2).trans hB2
  have c3 := (hW.cell (p := ⟨b, 4, none⟩) (by show b < _; omega)).trans hm
  have c4 := (hW.block mb (by omega)).trans hh
  cases ho with
  | none =>
    refine (out1_zero n l B1 B2 b mb clock hn now (J2 J ⟨.empty, 0, 0, 0⟩) W (J2_abides hJ _) c1 c2 c3 c4 h0).mono ?_
    rintro e W' ⟨hv, hj⟩
    exact ⟨hv, .inl ⟨[], rfl, hj⟩⟩
  | one key x bn hlt =>
    by_cases hx : now < x.t
    · refine (out1_yield n l B1 B2 b mb clock hn now key bn x.k x.c x.m x.t hlt hx n₀ hmb (J2 J x) (J2 Jx x) ?_ W (J2_abides hJ _) c1 c2 c3 c4 h0).mono ?_
      · intro W1 hW1
        exact hY [] x W1 hW1 (by simp)
      · rintro e W' ⟨hv, hj⟩
        refine ⟨hv, hj.elim (fun h => .inl ⟨[x], ?_, h⟩) (fun h => .inr ⟨[x], ?_, h⟩)⟩ <;> simp [outL, hx]
    · refine (out1_skip n l B1 B2 b mb clock hn now key bn x.k x.c x.m x.t hlt hx (J2 J x) W (J2_abides hJ _) c1 c2 c3 c4 h0).mono ?_
      rintro e W' ⟨hv, hj⟩
      exact ⟨hv, .inl ⟨[], by simp [outL, hx], hj⟩⟩
end Sim.Lease

namespace Sim.Lease
open Go Go.RowKit Go.Shelf Go.Proofs
set_option linter.unusedVariables false
attribute [local go_sem] Oper.semAt_some

theorem info201 : (Tryz.prog.info? 201).map (fun i => (i.zero, i.size, i.bytes)) = some (some (.agg #[.string .empty, .int .i64 0, .int .i64 0, .int .i64 0]), 4, 40) := by kernel_rfl
theorem info_parts {P : Program} {t : TypeId} {z : Option Value} {s b : Nat} (h : (P.info? t).map (fun i => (i.zero, i.size, i.bytes)) = some (z, s, b)) : ∃ i, P.info? t = some i ∧ i.zero = z ∧ i.size = s ∧ i.bytes = b := by
  cases hi : P.info? t with
  | none => simp [hi] at h
  | some i => simp [hi] at h; exact ⟨i, rfl, h.1, h.2.1, h.2.2⟩
def L4.cs (x : L4) : List Value := [.string x.k, .int .i64 x.c, .int .i64 x.m, .int .i64 x.t]
def lcells (l : List L4) : List Value := l.flatMap L4.cs
theorem cell_four_new (w : World) (x0 x1 x2 x3 : Value) (t : TypeId) : ∀ j u, [x0, x1, x2, x3][j]? = some u → (w.alloc (.cells #[x0, x1, x2, x3] t)).cell? ((⟨w.heap.size, 0, none⟩ : Addr).add j) = some u := by
  intro j u hj
  have e : ((⟨w.heap.size, 0, none⟩ : Addr).add j) = ⟨w.heap.size, j, none⟩ := by unfold Addr.add; split <;> simp_all
  rw [e, World.cell?_alloc_at _ _ _ _ rfl]
  match j, hj with
  | 0, hj => exact hj
  | 1, hj => exact hj
  | 2, hj => exact hj
  | 3, hj => exact hj
/-- The block of a loop's lease. -/
def Boxed4 (W : World) (B : Nat) (x : L4) : Prop := W.heap[B]? = some (.cells #[.string x.k, .int .i64 x.c, .int .i64 x.m, .int .i64 x.t] 201 (0, 0))
theorem Boxed4.lt {W : World} {B : Nat} {x : L4} (h : Boxed4 W B x) : B < W.heap.size := (Array.getElem?_eq_some_iff.1 h).1
theorem Boxed4.cell {W : World} {B : Nat} {x : L4} (h : Boxed4 W B x) (j : Nat) (hj : j < 4) : W.cell? ⟨B, j, none⟩ = x.cs[j]? := by
  simp only [World.cell?, show W.heap[B]? = _ from h]
  match j, hj with
  | 0, _ => rfl
  | 1, _ => rfl
  | 2, _ => rfl
  | 3, _ => rfl
theorem boxed4_own (B : Nat) (x : L4) : Own (fun (_ : Unit) W => Boxed4 W B x) := fun s X Y row hs hg hrow =>
  (grownBy_keeps_cells hg hrow hs rfl).trans hs
theorem boxed_kept {A B : World} {b : Nat} {t : TypeId} {v : Value} {row : Option Nat} (hs : Boxed A b t v) (hg : A.grownBy B row) (hr : ∀ r, row = some r → ∃ o : Obj, A.heap[r]? = some o ∧ o.isCells = false) : Boxed B b t v :=
  boxed_own (β := Unit) b t (fun _ => v) () A B row hs hg hr
theorem Boxed.kept_app {W w1 : World} {B B' : Nat} {t e : TypeId} {size n₀ k : Nat} {u v v' : Value} {xs : List Value} {tmp : Obj} (hb : Boxed W B' t u) (hte : t ≠ e) (hrow : W.ownsRow n₀ e size v k xs)
    (hgrow : (W.alloc tmp).grownBy w1 v.ownBlock) (hne : B' ≠ B) : Boxed (w1.setCell ⟨B, 0, none⟩ v') B' t u :=
  ((hb.alloc tmp).kept hgrow (hb.not_row hte hrow)).other hne v'
def ofKey (key : ByteArray) (l : List L4) : List L4 := l.filter (fun x => x.k.toList == key.toList)
theorem ofKey_le (key : ByteArray) (l : List L4) : (ofKey key l).length ≤ l.length := List.length_filter_le _ _

set_option maxRecDepth 100000 in
set_option maxHeartbeats 2000000 in
theorem Out_in (b mb clock : Nat) (es : Array MapEntry) (o : Option L4) (ho : One clock es o) (key : ByteArray) (now : Int) (w : World) (hm : w.cell? ⟨b, 4, none⟩ = some (.map (some mb))) (hh : w.heap[mb]? = some (.map es clock)) :
    CallsIn Fence.wide 6 Tryz.prog 108 #[.pointer (some ⟨b, 0, none⟩), .string key, .int .i64 now] w fun e w' => ∃ v, e = .returned v ∧
      w'.ownsRow w.heap.size 201 4 v (ofKey key (outL now o)).length (lcells (ofKey key (outL now o))) ∧ (v = .slice none 0 0 ↔ ofKey key (outL now o) = []) ∧ Below w.heap.size w w' := by
  have hmb : mb < w.heap.size := (Array.getElem?_eq_some_iff.1 hh).1
  have hb : b < w.heap.size := Decidable.byContradiction fun h => by simp [World.cell?, Array.getElem?_eq_none (Nat.le_of_not_lt h)] at hm
  obtain ⟨i0, hi, hz0, hz1, hz2⟩ := info_parts info201
  have hm' := Lib.hid hm
  have hh' := Lib.hid hh
  clear hm hh
  refine callsIn_of_wp_marks Tryz.func108 rfl trivial ?_ rfl
  simp only [Tryz.ntmps108, List.size_toArray, List.length_cons, List.length_nil, Nat.reduceAdd, Nat.reduceSub, Array.replicate_succ, Array.replicate_zero, List.push_toArray, List.append_toArray, List.nil_append, List.cons_append]
  gi_wp2_with (refine ⟨trivial, ?_⟩; gi_at_call 114; refine (out_in _ _ _ _).mono ?_; rintro e w' ⟨rfl, rfl⟩)
  have hB0 : Below w.heap.size w ((((w.alloc (.cells #[.string key] 9)).alloc (.cells #[.slice none 0 0] 79)).alloc (.cells #[.pointer (some ⟨b, 0, none⟩)] 124)).alloc (.cells #[.int .i64 now] 3)) := ((((Below.refl _ w).alloc (Nat.le_refl _) _).alloc (by simp) _).alloc (by simp; omega) _).alloc (by simp; omega) _
  have q0 := Boxed.new w 9 (.string key)
  replace q0 := Boxed.alloc q0 (.cells #[.slice none 0 0] 79)
  replace q0 := Boxed.alloc q0 (.cells #[.pointer (some ⟨b, 0, none⟩)] 124)
  replace q0 := Boxed.alloc q0 (.cells #[.int .i64 now] 3)
  have q1 := Boxed.new (w.alloc (.cells #[.string key] 9)) 79 (.slice none 0 0)
  simp only [World.size_alloc] at q1
  replace q1 := Boxed.alloc q1 (.cells #[.pointer (some ⟨b, 0, none⟩)] 124)
  replace q1 := Boxed.alloc q1 (.cells #[.int .i64 now] 3)
  have q2 := Boxed.new ((w.alloc (.cells #[.string key] 9)).alloc (.cells #[.slice none 0 0] 79)) 124 (.pointer (some ⟨b, 0, none⟩))
  simp only [World.size_alloc] at q2
  replace q2 := Boxed.alloc q2 (.cells #[.int .i64 now] 3)
  have q3 := Boxed.new (((w.alloc (.cells #[.string key] 9)).alloc (.cells #[.slice none 0 0] 79)).alloc (.cells #[.pointer (some ⟨b, 0, none⟩)] 124)) 3 (.int .i64 now)
  simp only [World.size_alloc] at q3
  refine wpIn_rangeFunc_ownH rfl (by omega) (gf := 176) (lb := #[.pointer (some ⟨w.heap.size + 1 + 1, 0, none⟩), .pointer (some ⟨w.heap.size + 1 + 1 + 1, 0, none⟩)]) rfl trivial (enters_of Tryz.func176 (by kernel_rfl) rfl)
    (out_stops 5 (by omega) _ _ b mb clock w.heap.size now es o ho hmb hb _ (by simp; omega) q2.cell q3.cell (by simp) (by simp) ((hB0.cell (p := ⟨b, 4, none⟩) hb).trans hm'.out) ((hB0.block mb hmb).trans hh'.out)) Kq.trans (Kq.putObj (by simp; omega)) (Below.refl _ _) (fun _ => rfl)
    (fun pre W => ((∃ v, Boxed W (w.heap.size + 1) 79 v ∧ W.ownsRow w.heap.size 201 4 v (ofKey key pre).length (lcells (ofKey key pre)) ∧ (v = .slice none 0 0 ↔ ofKey key pre = [])) ∧ Boxed W w.heap.size 9 (.string key)) ∧ Below w.heap.size w W)
    (fun _ _ _ => False)
    (OwnFrom.and (Own.from (fun s A B row hs hg hr => ⟨holdsRow_own w.heap.size (w.heap.size + 1) 79 201 4 (fun pre => (ofKey key pre).length) (fun pre => lcells (ofKey key pre)) (fun pre v => v = .slice none 0 0 ↔ ofKey key pre = []) s A B row hs.1 hg hr, boxed_kept hs.2 hg hr⟩) _) (ownFrom_below (Nat.le_refl _) (by simp; omega)))
    (fun _ _ _ _ _ hs _ _ => hs)
    ⟨⟨⟨_, q1, World.ownsRow_nil _ _ _ _, by simp [ofKey]⟩, q0⟩, hB0⟩
    (fun x a' W => ∃ Bx, w.heap.size + 1 < Bx ∧ Boxed4 W Bx x ∧ a' = { tmps := #[.pointer (some ⟨b, 0, none⟩), .string key, .int .i64 now, undef, .pointer (some ⟨w.heap.size, 0, none⟩), undef, .slice none 0 0, .pointer (some ⟨w.heap.size + 1, 0, none⟩), .pointer (some ⟨Bx, 0, none⟩), .pointer (some ⟨b, 0, none⟩), .int .i64 now, .func (.func 176) #[] #[.pointer (some ⟨w.heap.size + 1 + 1, 0, none⟩), .pointer (some ⟨w.heap.size + 1 + 1 + 1, 0, none⟩)], x.v, undef, undef, undef, undef, undef, undef, undef, undef, undef, undef, undef], defers := [] })
    (fun x a' => by
      rintro s A B row ⟨Bx, h1, h2, h3⟩ hg hr
      exact ⟨Bx, h1, boxed4_own Bx x () A B row h2 hg (fun r e => (hr r e).2), h3⟩) ?assign ?body ?done ?stop
  case assign =>
    rintro l pre x W K ⟨⟨⟨v, hv, hrow, hnil⟩, r0⟩, hB⟩ hK
    have hlt := hv.lt
    have hK' := Lib.hid hK
    have hv' := Lib.hid hv
    have hrow' := Lib.hid hrow
    have hnil' := Lib.hid hnil
    have r0' := Lib.hid r0
    clear hK hv hrow hnil r0 q0 q1 q2 q3 hB0
    unfold L4.v lv
    gi_wp2
    exact hK'.out _ _ ((KeepsOthers.alloc _ _).from _) ⟨(Below.refl _ _).alloc hB.size _, KeepsWalks.alloc _ _⟩ ⟨⟨⟨v, hv'.out.alloc _, hrow'.out.alloc _, hnil'.out⟩, r0'.out.alloc _⟩, hB.alloc hB.size _⟩ ⟨W.heap.size, hlt, hp_new W _, rfl⟩
  case body =>
    rintro l pre x a' W _ _ ⟨⟨⟨v, hv, hrow, hnil⟩, r0⟩, hB⟩ ⟨Bx, hBx, h4, rfl⟩ hlen
    obtain rfl : pre = [] := List.eq_nil_of_length_eq_zero (by omega)
    have hnil' := Lib.hid hnil
    have hf := h4.cell 0 (by omega)
    have hf1 := h4.cell 1 (by omega)
    have hf2 := h4.cell 2 (by omega)
    have hf3 := h4.cell 3 (by omega)
    have hk0 := r0.cell
    have hc := hv.cell
    have hv' := Lib.hid hv
    have hrow' := Lib.hid hrow
    have r0' := Lib.hid r0
    have hB' := Lib.hid hB
    clear q0 q1 q2 q3 hB0 hv hrow hnil r0 hB h4
    simp only [L4.cs] at hf hf1 hf2 hf3
    cases hx : (x.k.toList == key.toList)
    · gi_wp2
      refine ⟨KeepsFrom.refl _ _, Kq.refl _ _, ⟨⟨_, hv'.out, ?_, ?_⟩, r0'.out⟩, hB'.out⟩
      · simpa [ofKey, hx] using hrow'.out
      · simpa [ofKey, hx] using hnil'.out
    · gi_wp2_with (gi_at_builtin; go_loud (refine wpListIn_append_own _ rfl _ _ 79 rfl w.heap.size 201 i0 (.agg #[.string .empty, .int .i64 0, .int .i64 0, .int .i64 0]) 4 40 Tryz.underlying79 hi hz0 hz1 hz2 rfl (by decide) _ _ _ rfl (hrow'.out.alloc _) ⟨W.heap.size, 0, none⟩ 1 1 x.cs rfl rfl (cell_four_new _ _ _ _ _ _) (by simp [Value.oneCell', L4.cs]) (by simp [ofKey, maxLen]) (by simp [ofKey]) (by have := hB'.out.size; simp; omega) ?_); intro v' w1 hown' hgrow _; obtain ⟨g', cap', rfl⟩ := ownsRow_succ hown'; obtain ⟨hv1, hv2, hr2, hk2, hb2⟩ := hv'.out.appended (by decide) hrow'.out hB'.out.size (by omega) hown' hgrow; have hg4 := Lib.hid hgrow; have hc4 := hv1.cell; have hf4 := hv1.frozen)
      have b0 := Boxed.kept_app (v' := .slice (some ⟨g', 0, none⟩) 1 cap') r0'.out (by decide) hrow'.out hg4.out (B := w.heap.size + 1) (by omega)
      refine ⟨hk2.from _, ⟨hb2, hk2.walks⟩, ⟨⟨_, hv2, ?_, ?_⟩, b0⟩, hB'.out.trans hb2⟩
      · simpa [ofKey, hx, lcells] using hr2
      · simp [ofKey, hx]
  case done =>
    rintro D ys W hD rfl ⟨⟨⟨v, hv, hrow, hnil⟩, r0⟩, hB⟩ hK
    clear q0 q1 q2 q3 hB0 r0
    have hc := hv.cell
    have hlen : (ofKey key (outL now o)).length ≤ 1 := Nat.le_trans (ofKey_le _ _) (outL_le _ _)
    have hv' : ∃ bs cap, v = .slice bs (ofKey key (outL now o)).length cap := by
      rcases hrow.2 with ⟨h1, h2⟩ | ⟨gg, cap, cur, h1, _⟩
      · exact ⟨none, 0, by rw [h1, h2]⟩
      · exact ⟨_, _, h1⟩
    obtain ⟨bs, cap, rfl⟩ := hv'
    gi_wp2_with (refine ⟨trivial, ?_⟩; gi_at_call 174; refine (callsIn_wide.2 (sort_small _ _ _ _ hlen _)).mono ?_; rintro e W2 ⟨rfl, he2⟩; rw [he2]; clear he2)
    refine ⟨by simp, .inl ⟨_, _, rfl, run_takeDeferred hK, ?_⟩⟩
    exact ⟨_, results_tmp rfl _ _ _, .slice bs (ofKey key (outL now o)).length cap, rfl, ownsRow_putObj hrow _ hK rfl, hnil, hB.trans (belowK_b (w := w) (Nat.le_refl _) W D _ _ (by simp at hD; omega) hK rfl rfl)⟩
  case stop =>
    rintro D c pre W _ _ h _
    exact h.elim
end Sim.Lease

namespace Sim.Lease
open Go Go.RowKit Go.Shelf Go.Proofs
set_option linter.unusedVariables false
attribute [local go_sem] Oper.semAt_some

theorem lcells_len (l : List L4) (h : l.length ≤ 1) : True := trivial
theorem ownsRow_low {W : World} {base base' : Nat} {e : TypeId} {size : Nat} {v : Value} {k : Nat} {xs : List Value} (h : W.ownsRow base e size v k xs) (hb : base' ≤ base) : W.ownsRow base' e size v k xs := by
  refine ⟨h.1, ?_⟩
  rcases h.2 with h0 | ⟨g, cap, cur, h1, h2, h3⟩
  · exact .inl h0
  · exact .inr ⟨g, cap, cur, h1, Nat.le_trans hb h2, h3⟩
set_option maxRecDepth 100000 in
set_option maxHeartbeats 2000000 in
theorem AppendSeq_in (B1 B2 b mb clock : Nat) (es : Array MapEntry) (o : Option L4) (ho : One clock es o) (now : Int) (w : World) (hB1 : w.cell? ⟨B1, 0, none⟩ = some (.pointer (some ⟨b, 0, none⟩))) (hB2 : w.cell? ⟨B2, 0, none⟩ = some (.int .i64 now))
    (hm : w.cell? ⟨b, 4, none⟩ = some (.map (some mb))) (hh : w.heap[mb]? = some (.map es clock)) :
    CallsIn Fence.wide 6 Tryz.prog 232 #[.slice none 0 0, .func (.func 176) #[] #[.pointer (some ⟨B1, 0, none⟩), .pointer (some ⟨B2, 0, none⟩)]] w fun e w' => ∃ v, e = .returned v ∧
      w'.ownsRow w.heap.size 201 4 v (outL now o).length (lcells (outL now o)) ∧ (v = .slice none 0 0 ↔ outL now o = []) ∧ Below w.heap.size w w' := by
  have hmb : mb < w.heap.size := (Array.getElem?_eq_some_iff.1 hh).1
  have hb : b < w.heap.size := Decidable.byContradiction fun h => by simp [World.cell?, Array.getElem?_eq_none (Nat.le_of_not_lt h)] at hm
  have hlB1 : B1 < w.heap.size := Decidable.byContradiction fun h => by simp [World.cell?, Array.getElem?_eq_none (Nat.le_of_not_lt h)] at hB1
  have hlB2 : B2 < w.heap.size := Decidable.byContradiction fun h => by simp [World.cell?, Array.getElem?_eq_none (Nat.le_of_not_lt h)] at hB2
  obtain ⟨i0, hi, hz0, hz1, hz2⟩ := info_parts info201
  have hm' := Lib.hid hm
  have hh' := Lib.hid hh
  have hB1' := Lib.hid hB1
  have hB2' := Lib.hid hB2
  clear hm hh hB1 hB2
  refine callsIn_of_wp_marks Tryz.func232 rfl trivial ?_ rfl
  simp only [Tryz.ntmps232, List.size_toArray, List.length_cons, List.length_nil, Nat.reduceAdd, Nat.reduceSub, Array.replicate_succ, Array.replicate_zero, List.push_toArray, List.append_toArray, List.nil_append, List.cons_append]
  gi_wp2
  have hB0 : Below w.heap.size w (w.alloc (.cells #[.slice none 0 0] 79)) := (Below.refl _ w).alloc (Nat.le_refl _) _
  have q1 := Boxed.new w 79 (.slice none 0 0)
  refine wpIn_rangeFunc_ownH rfl (by omega) (gf := 176) (lb := #[.pointer (some ⟨B1, 0, none⟩), .pointer (some ⟨B2, 0, none⟩)]) rfl trivial (enters_of Tryz.func176 (by kernel_rfl) rfl)
    (out_stops 5 (by omega) _ _ b mb clock w.heap.size now es o ho hmb hb _ (by simp) ((hB0.cell (p := ⟨B1, 0, none⟩) hlB1).trans hB1'.out) ((hB0.cell (p := ⟨B2, 0, none⟩) hlB2).trans hB2'.out) (by simp; omega) (by simp; omega) ((hB0.cell (p := ⟨b, 4, none⟩) hb).trans hm'.out) ((hB0.block mb hmb).trans hh'.out)) Kq.trans (Kq.putObj (by simp)) (Below.refl _ _) (fun _ => rfl)
    (fun pre W => (∃ v, Boxed W w.heap.size 79 v ∧ W.ownsRow w.heap.size 201 4 v pre.length (lcells pre) ∧ (v = .slice none 0 0 ↔ pre = [])) ∧ Below w.heap.size w W)
    (fun _ _ _ => False)
    (OwnFrom.and (Own.from (fun s A B row hs hg hr => holdsRow_own w.heap.size w.heap.size 79 201 4 (fun pre : List L4 => pre.length) lcells (fun pre v => v = .slice none 0 0 ↔ pre = []) s A B row hs hg hr) _) (ownFrom_below (Nat.le_refl _) (by simp)))
    (fun _ _ _ _ _ hs _ _ => hs)
    ⟨⟨_, q1, World.ownsRow_nil _ _ _ _, by simp⟩, hB0⟩
    (fun x a' W => ∃ Bx, w.heap.size < Bx ∧ Boxed4 W Bx x ∧ a' = { tmps := #[.slice none 0 0, .func (.func 176) #[] #[.pointer (some ⟨B1, 0, none⟩), .pointer (some ⟨B2, 0, none⟩)], .pointer (some ⟨w.heap.size, 0, none⟩), undef, .slice none 0 0, .pointer (some ⟨Bx, 0, none⟩), .func (.func 176) #[] #[.pointer (some ⟨B1, 0, none⟩), .pointer (some ⟨B2, 0, none⟩)], x.v, undef, undef, undef, undef, undef], defers := [] })
    (fun x a' => by
      rintro s A B row ⟨Bx, h1, h2, h3⟩ hg hr
      exact ⟨Bx, h1, boxed4_own Bx x () A B row h2 hg (fun r e => (hr r e).2), h3⟩) ?assign ?body ?done ?stop
  case assign =>
    rintro l pre x W K ⟨⟨v, hv, hrow, hnil⟩, hB⟩ hK
    have hlt := hv.lt
    have hK' := Lib.hid hK
    have hv' := Lib.hid hv
    have hrow' := Lib.hid hrow
    have hnil' := Lib.hid hnil
    clear hK hv hrow hnil q1 hB0
    unfold L4.v lv
    gi_wp2
    exact hK'.out _ _ ((KeepsOthers.alloc _ _).from _) ⟨(Below.refl _ _).alloc hB.size _, KeepsWalks.alloc _ _⟩ ⟨⟨v, hv'.out.alloc _, hrow'.out.alloc _, hnil'.out⟩, hB.alloc hB.size _⟩ ⟨W.heap.size, hlt, hp_new W _, rfl⟩
  case body =>
    rintro l pre x a' W _ _ ⟨⟨v, hv, hrow, hnil⟩, hB⟩ ⟨Bx, hBx, h4, rfl⟩ hlen
    obtain rfl : pre = [] := List.eq_nil_of_length_eq_zero (by omega)
    have hnil' := Lib.hid hnil
    have hf := h4.cell 0 (by omega)
    have hf1 := h4.cell 1 (by omega)
    have hf2 := h4.cell 2 (by omega)
    have hf3 := h4.cell 3 (by omega)
    have hc := hv.cell
    have hv' := Lib.hid hv
    have hrow' := Lib.hid hrow
    have hB' := Lib.hid hB
    clear q1 hB0 hv hrow hnil hB h4
    simp only [L4.cs] at hf hf1 hf2 hf3
    gi_wp2_with (gi_at_builtin; go_loud (refine wpListIn_append_own _ rfl _ _ 79 rfl w.heap.size 201 i0 (.agg #[.string .empty, .int .i64 0, .int .i64 0, .int .i64 0]) 4 40 Tryz.underlying79 hi hz0 hz1 hz2 rfl (by decide) _ _ _ rfl (hrow'.out.alloc _) ⟨W.heap.size, 0, none⟩ 1 1 x.cs rfl rfl (cell_four_new _ _ _ _ _ _) (by simp [Value.oneCell', L4.cs]) (by simp [maxLen]) (by simp) (by have := hB'.out.size; simp; omega) ?_); intro v' w1 hown' hgrow _; obtain ⟨g', cap', rfl⟩ := ownsRow_succ hown'; obtain ⟨hv1, hv2, hr2, hk2, hb2⟩ := hv'.out.appended (by decide) hrow'.out hB'.out.size (Nat.le_refl _) hown' hgrow; have hc4 := hv1.cell; have hf4 := hv1.frozen)
    refine ⟨hk2.from _, ⟨hb2, hk2.walks⟩, ⟨⟨_, hv2, ?_, ?_⟩, hB'.out.trans hb2⟩⟩
    · simpa [lcells] using hr2
    · simp
  case done =>
    rintro D ys W hD rfl ⟨⟨v, hv, hrow, hnil⟩, hB⟩ hK
    clear q1 hB0
    have hc := hv.cell
    have hv' : ∃ bs cap, v = .slice bs (outL now o).length cap := by
      rcases hrow.2 with ⟨h1, h2⟩ | ⟨gg, cap, cur, h1, _⟩
      · exact ⟨none, 0, by rw [h1, h2]⟩
      · exact ⟨_, _, h1⟩
    obtain ⟨bs, cap, rfl⟩ := hv'
    gi_wp2
    refine ⟨by simp, .inl ⟨_, _, rfl, run_takeDeferred hK, ?_⟩⟩
    exact ⟨_, results_tmp rfl _ _ _, .slice bs (outL now o).length cap, rfl, ownsRow_putObj hrow _ hK rfl, hnil, hB.trans (belowK_b (w := w) (Nat.le_refl _) W D _ _ (by simp at hD; omega) hK rfl rfl)⟩
  case stop =>
    rintro D c pre W _ _ h _
    exact h.elim
end Sim.Lease

namespace Sim.Lease
open Go Go.RowKit Go.Shelf Go.Proofs
set_option linter.unusedVariables false
attribute [local go_sem] Oper.semAt_some

theorem slice_of {W : World} {base : Nat} {e : TypeId} {size : Nat} {v : Value} {k : Nat} {xs : List Value} (h : W.ownsRow base e size v k xs) : ∃ bs cap, v = .slice bs k cap := by
  rcases h.2 with ⟨h1, h2⟩ | ⟨gg, cap, cur, h1, _⟩
  · exact ⟨none, 0, by rw [h1, h2]⟩
  · exact ⟨_, _, h1⟩
theorem Collect_is (B1 B2 b mb clock : Nat) (es : Array MapEntry) (o : Option L4) (ho : One clock es o) (now : Int) (w : World) (hB1 : w.cell? ⟨B1, 0, none⟩ = some (.pointer (some ⟨b, 0, none⟩))) (hB2 : w.cell? ⟨B2, 0, none⟩ = some (.int .i64 now))
    (hm : w.cell? ⟨b, 4, none⟩ = some (.map (some mb))) (hh : w.heap[mb]? = some (.map es clock)) :
    Calls Tryz.prog 175 #[.func (.func 176) #[] #[.pointer (some ⟨B1, 0, none⟩), .pointer (some ⟨B2, 0, none⟩)]] w fun e w' => ∃ v, e = .returned v ∧
      w'.ownsRow w.heap.size 201 4 v (outL now o).length (lcells (outL now o)) ∧ (v = .slice none 0 0 ↔ outL now o = []) ∧ Below w.heap.size w w' := by
  have hA := Lib.hid (callsIn_wide.1 (AppendSeq_in B1 B2 b mb clock es o ho now w hB1 hB2 hm hh))
  clear hm hh hB1 hB2
  go_enter Tryz.func175, Tryz.ntmps175
  go_wp2_with (go_at_call 232; refine hA.out.mono ?_; rintro e w' ⟨v, rfl, hrow, hnil, hbl⟩; obtain ⟨bs, cap, rfl⟩ := slice_of hrow)
  refine bodyPost_ret (results_tmp rfl _ _ _) rfl ?_
  exact ⟨_, rfl, hrow, hnil, hbl⟩
theorem SortedFunc_is (B1 B2 b mb clock : Nat) (es : Array MapEntry) (o : Option L4) (ho : One clock es o) (now : Int) (f : Value) (w : World) (hB1 : w.cell? ⟨B1, 0, none⟩ = some (.pointer (some ⟨b, 0, none⟩))) (hB2 : w.cell? ⟨B2, 0, none⟩ = some (.int .i64 now))
    (hm : w.cell? ⟨b, 4, none⟩ = some (.map (some mb))) (hh : w.heap[mb]? = some (.map es clock)) :
    Calls Tryz.prog 113 #[.func (.func 176) #[] #[.pointer (some ⟨B1, 0, none⟩), .pointer (some ⟨B2, 0, none⟩)], f] w fun e w' => ∃ v, e = .returned v ∧
      w'.ownsRow w.heap.size 201 4 v (outL now o).length (lcells (outL now o)) ∧ (v = .slice none 0 0 ↔ outL now o = []) ∧ Below w.heap.size w w' := by
  have hA := Lib.hid (Collect_is B1 B2 b mb clock es o ho now w hB1 hB2 hm hh)
  have hle := outL_le now o
  clear hm hh hB1 hB2
  go_enter Tryz.func113, Tryz.ntmps113
  go_wp2_with (first | (go_at_call 175; refine hA.out.mono ?_; rintro e w' ⟨v, rfl, hrow, hnil, hbl⟩; obtain ⟨bs, cap, rfl⟩ := slice_of hrow) | (go_at_call 174; refine (sort_small _ _ _ _ hle _).mono ?_; rintro e W2 ⟨rfl, he2⟩; rw [he2]; clear he2))
  refine bodyPost_ret (results_tmp rfl _ _ _) rfl ?_
  exact ⟨_, rfl, hrow, hnil, hbl⟩
theorem All_is (b mb clock : Nat) (es : Array MapEntry) (o : Option L4) (ho : One clock es o) (now : Int) (w : World)
    (hm : w.cell? ⟨b, 4, none⟩ = some (.map (some mb))) (hh : w.heap[mb]? = some (.map es clock)) :
    Calls Tryz.prog 68 #[.pointer (some ⟨b, 0, none⟩), .int .i64 now] w fun e w' => ∃ v, e = .returned v ∧
      w'.ownsRow w.heap.size 201 4 v (outL now o).length (lcells (outL now o)) ∧ (v = .slice none 0 0 ↔ outL now o = []) ∧ Below w.heap.size w w' := by
  have hmb : mb < w.heap.size := (Array.getElem?_eq_some_iff.1 hh).1
  have hb : b < w.heap.size := Decidable.byContradiction fun h => by simp [World.cell?, Array.getElem?_eq_none (Nat.le_of_not_lt h)] at hm
  have hB0 : Below w.heap.size w ((w.alloc (.cells #[.pointer (some ⟨b, 0, none⟩)] 124)).alloc (.cells #[.int .i64 now] 3)) := ((Below.refl _ w).alloc (Nat.le_refl _) _).alloc (by simp) _
  have q2 := Boxed.new w 124 (.pointer (some ⟨b, 0, none⟩))
  replace q2 := Boxed.alloc q2 (.cells #[.int .i64 now] 3)
  have q3 := Boxed.new (w.alloc (.cells #[.pointer (some ⟨b, 0, none⟩)] 124)) 3 (.int .i64 now)
  simp only [World.size_alloc] at q3
  have hA := Lib.hid (fun f => SortedFunc_is w.heap.size (w.heap.size + 1) b mb clock es o ho now f _ q2.cell q3.cell ((hB0.cell (p := ⟨b, 4, none⟩) hb).trans hm) ((hB0.block mb hmb).trans hh))
  have hB0' := Lib.hid hB0
  clear hm hh hB0 q2 q3
  go_enter Tryz.func68, Tryz.ntmps68
  go_wp2_with (first | (go_at_call 114; refine (callsIn_wide.1 (out_in 6 _ _ _)).mono ?_; rintro e w' ⟨rfl, rfl⟩) | (go_at_call 113; refine (hA.out _).mono ?_; rintro e w' ⟨v, rfl, hrow, hnil, hbl⟩; obtain ⟨bs, cap, rfl⟩ := slice_of hrow))
  refine bodyPost_ret (results_tmp rfl _ _ _) rfl ?_
  exact ⟨_, rfl, ownsRow_low hrow (by simp; omega), hnil, hB0'.out.trans (hbl.mono (by simp; omega))⟩
end Sim.Lease

namespace Sim.Lease
open Go Go.RowKit Go.Shelf Go.Proofs
set_option linter.unusedVariables false
attribute [local go_sem] Oper.semAt_some

theorem grown_iter (W : World) (l : Nat) (o o' : Obj) (n₀ : Nat) (hl : n₀ ≤ l) (h : W.heap[l]? = some o) : Below n₀ W (W.putObj l o') :=
  (Below.refl n₀ W).grown (grownBy_putObj' W l o') (by have := (Array.getElem?_eq_some_iff.1 h).1; omega) (fun k e => by cases e; omega)
theorem step_delete {P : Program} {ops : Array Oper} {o : Oper} {a : Act} {w : World} {K : Act → World → Prop} {Q : Exit → Act → World → Prop} {E : Prop}
    (hg : o.guard = none) (m k : Operand) (ats : Array TypeId) (hop : o.op = Op.call { callee := Callee.builtin Builtin.delete, args := #[m, k], argTypes := ats })
    (x y : Value) (hx : a.eval m = x) (hy : a.eval k = y) (w' : World) (hrun : (Builtin.delete_ ats o.type #[x, y]).run P w = .ok (.tuple #[]) w')
    (hK : K (a.put o.dst (.tuple #[])) w') :
    if Region.wanted o (yielded ops a.tmps) = true then Oper.wp P o a w K Q else E := by
  have hw : Region.wanted o (yielded ops a.tmps) = true := by simp [Region.wanted, hg]
  rw [if_pos hw]
  unfold Oper.wp
  simp [execOp, hop, resolve, invoke, builtin, hx, hy, hrun, Result.andThen]
  exact hK
set_option maxRecDepth 100000 in
set_option maxHeartbeats 2000000 in
theorem Back_one (b mb clock : Nat) (kk : ByteArray) (kc : Int) (k : ByteArray) (c m t : Int) (bn : Nat) (hbn : bn < clock) (w : World)
    (hm : w.cell? ⟨b, 4, none⟩ = some (.map (some mb))) (hh : w.heap[mb]? = some (.map #[⟨.agg #[.string kk, .int .i64 kc], lv k c m t, bn⟩] clock)) (Q : World → Prop)
    (hdel : ∀ (W : World) (ty : TypeId), Below w.heap.size w W → ∃ W', (Builtin.delete_ #[189, 293] ty #[.map (some mb), .agg #[.string kk, .int .i64 kc]]).run Tryz.prog W = .ok (.tuple #[]) W' ∧ Q W') :
    Calls Tryz.prog 111 #[.pointer (some ⟨b, 0, none⟩), .int .i64 c, .int .i64 m] w fun e w' => e = .returned (.bool true) ∧ Q w' := by
  have hr := run_range_map (P := Tryz.prog) w 189 _ _ mb _ clock Tryz.underlying189 hh
  have hlt : mb < w.heap.size := (Array.getElem?_eq_some_iff.1 hh).1
  have hb : b < w.heap.size := Decidable.byContradiction fun h => by simp [World.cell?, Array.getElem?_eq_none (Nat.le_of_not_lt h)] at hm
  have hnx := fun ty => next_one (w.alloc (.mapIter (some mb) clock #[] clock)) ty w.heap.size mb clock clock ⟨.agg #[.string kk, .int .i64 kc], lv k c m t, bn⟩ clock (hp_new w _) ((hp_old w _ mb hlt).trans hh) hbn
  obtain ⟨W1, hW1⟩ : ∃ W1, (w.alloc (.mapIter (some mb) clock #[] clock)).putObj w.heap.size (.mapIter (some mb) clock #[bn] clock) = W1 := ⟨_, rfl⟩
  have hs1 : W1.heap.size = w.heap.size + 1 := by rw [← hW1]; simp [World.putObj]
  have hB1 : Below w.heap.size w W1 := by
    rw [← hW1]
    exact ((Below.refl _ w).alloc (Nat.le_refl _) _).trans (grown_iter _ _ _ _ _ (Nat.le_refl _) (hp_new w _))
  have hat : W1.heap[w.heap.size]? = some (.mapIter (some mb) clock #[bn] clock) := by rw [← hW1, World.putObj_heap_same (by simp)]
  have hen := run_entry_at (P := Tryz.prog) W1 w.heap.size mb clock #[] #[⟨.agg #[.string kk, .int .i64 kc], lv k c m t, bn⟩] clock ⟨.agg #[.string kk, .int .i64 kc], lv k c m t, bn⟩ hat ((hB1.block mb hlt).trans hh) (by simp) (by simp)
  have hm1 : W1.cell? ⟨b, 4, none⟩ = some (.map (some mb)) := (hB1.cell (p := ⟨b, 4, none⟩) hb).trans hm
  have hbs : b < W1.heap.size := by omega
  rw [hW1] at hnx
  simp only [lv] at hen hnx
  have hdel' := Lib.hid hdel
  have hB1' := Lib.hid hB1
  clear hdel hB1 hh hat
  go_enter Tryz.func111, Tryz.ntmps111
  go_wp2
  refine wp_loop_rounds 2 ?_
  rw [rounds_succ]
  go_wp2
  have hB2 : Below w.heap.size w (((W1.alloc (.cells #[.string kk, .int .i64 kc] 293)).alloc (.cells #[.string k, .int .i64 c, .int .i64 m, .int .i64 t] 201)).drew) := ((hB1'.out.alloc (by omega) _).alloc (by simp; omega) _).drew
  have h34 := (hB2.cell (p := ⟨b, 4, none⟩) hb).trans hm
  have h35 : (((W1.alloc (.cells #[.string kk, .int .i64 kc] 293)).alloc (.cells #[.string k, .int .i64 c, .int .i64 m, .int .i64 t] 201)).drew).cell? ⟨w.heap.size + 1, 0, none⟩ = some (.string kk) := by
    show ((W1.alloc (.cells #[.string kk, .int .i64 kc] 293)).alloc (.cells #[.string k, .int .i64 c, .int .i64 m, .int .i64 t] 201)).cell? ⟨w.heap.size + 1, 0, none⟩ = _
    rw [World.cell?_alloc_past _ _ _ (by simp; omega), World.cell?_alloc_at _ _ _ _ hs1.symm]; rfl
  have h36 : (((W1.alloc (.cells #[.string kk, .int .i64 kc] 293)).alloc (.cells #[.string k, .int .i64 c, .int .i64 m, .int .i64 t] 201)).drew).cell? ⟨w.heap.size + 1, 1, none⟩ = some (.int .i64 kc) := by
    show ((W1.alloc (.cells #[.string kk, .int .i64 kc] 293)).alloc (.cells #[.string k, .int .i64 c, .int .i64 m, .int .i64 t] 201)).cell? ⟨w.heap.size + 1, 1, none⟩ = _
    rw [World.cell?_alloc_past _ _ _ (by simp; omega), World.cell?_alloc_at _ _ _ _ hs1.symm]; rfl
  have hB2' := Lib.hid hB2
  clear hB2
  go_region_law (obtain ⟨W', hd, hq⟩ := hdel'.out _ 0 hB2'.out; refine step_delete rfl (.tmp 34) (.tmp 35) _ rfl _ _ rfl rfl W' hd ?_)
  all_goals go_wp2
  all_goals exact bodyPost_ret (results_tmp rfl _ _ _) rfl ⟨rfl, hq⟩
end Sim.Lease

/- The table of leases that has one at most: intrinsics. -/
namespace Sim
open Go Go.Proofs
set_option linter.unusedVariables false
/-- What a table has: nothing, one lease, or what is not spoken of. -/
inductive LE where
  | no
  | one (n k : Nat) (c m t : Int)
  | bad
noncomputable def leaseE (es : List Ent) (clock : Nat) : LE := match es with
  | [] => .no
  | [(key, .agg (.one (.str n k) (.one (.int .i64 c) (.one (.int .i64 m) (.one (.int .i64 t) .nil)))), bn)] => bsel (Nat.ble (Nat.succ bn) clock) (.one n k c m t) .bad
  | _ => .bad
noncomputable def tableE (tb : Bp) (st : St) : LE := match st.mem.get tb with
  | some (.cells (.one _ (.one _ (.one _ (.one _ (.one (.map mb) _))))) _ _) => (match st.mem.get mb with | some (.map es clock) => leaseE es clock | _ => .bad)
  | _ => .bad
def LE.l4 : LE → Option Lease.L4
  | .one n k c m t => some ⟨strB n k, c, m, t⟩
  | _ => none
theorem VRs4 {ρ : Ren} {n k : Nat} {c m t : Int} {l : List Value} (h : VRs ρ (row (.one (.str n k) (.one (.int .i64 c) (.one (.int .i64 m) (.one (.int .i64 t) .nil))))) l) :
    l = (Lease.L4.mk (strB n k) c m t).cs := by
  obtain ⟨a, r1, rfl, h1, k1⟩ := h.inv
  obtain ⟨b, r2, rfl, h2, k2⟩ := VRs.inv k1
  obtain ⟨d, r3, rfl, h3, k3⟩ := VRs.inv k2
  obtain ⟨e, r4, rfl, h4, k4⟩ := VRs.inv k3
  have e5 : r4 = [] := List.length_eq_zero_iff.1 k4.len.symm
  subst e5
  cases h1; cases h2; cases h3; cases h4
  rfl
theorem table_is {ρ : Ren} {st : St} {w : World} {tb : Bp} {r sz : Nat} (hw : WR ρ st w) (hr : ρ tb = some (r, sz)) (hb : tableE tb st ≠ .bad) :
    ∃ mr es clock, w.cell? ⟨r, 4, none⟩ = some (.map (some mr)) ∧ w.heap[mr]? = some (.map es clock) ∧ Lease.One clock es (tableE tb st).l4 := by
  unfold tableE at hb ⊢
  split at hb
  · rename_i x0 x1 x2 x3 mb x5 ty g htb
    split at hb
    · rename_i es clock hmb
      obtain ⟨c, lo, hi, a1, a2, a3, a4, a5⟩ := hw.row htb hr
      obtain ⟨m', hm1, hm2⟩ := a4.get (i := 4) (v := .map mb) rfl
      cases hm2 with
      | map _ mr sz2 hmr =>
        obtain ⟨es', b1, b2, b3⟩ := hw.map hmb hmr
        refine ⟨mr, es'.toArray, clock, ?_, b1, ?_⟩
        · rw [List.getElem?_take] at hm1
          split at hm1
          · simp only [World.cell?, a1]; simpa using hm1
          · cases hm1
        · unfold leaseE at hb ⊢
          split at hb
          · have : es' = [] := List.length_eq_zero_iff.1 b2.symm
            subst this
            exact .none
          · rename_i key n k c2 m2 t2 bn
            simp only [bsel_eq, Nat.ble_eq] at hb ⊢
            split at hb
            · rename_i hlt
              obtain ⟨e, rfl⟩ : ∃ e, es' = [e] := List.length_eq_one_iff.1 b2.symm
              obtain ⟨g1, g2, g3⟩ := b3 0 _ _ rfl rfl
              obtain ⟨ek, ev, eb⟩ := e
              cases g2 with
              | agg _ l hl hh =>
                have := VRs4 (VRs.mk (ρ := ρ) hl hh)
                subst this
                simp only at g3
                subst g3
                rw [if_pos hlt]
                exact .one _ ⟨strB n k, c2, m2, t2⟩ _ hlt
            · exact absurd rfl hb
          · exact absurd rfl hb
    · exact absurd rfl hb
  · exact absurd rfl hb
noncomputable def rowL (n k : Nat) (c m t : Int) : Segs CV := .one (.str n k) (.one (.int .i64 c) (.one (.int .i64 m) (.one (.int .i64 t) .nil)))
noncomputable def lres (n k : Nat) (c m t : Int) (st : St) : OR := forceB st.next.succ fun nx => .ok (.slice st.next 0 1 1 4) ⟨st.mem.put st.next (some (.cells (rowL n k c m t) 201 true)), nx⟩
/-- A row of leases, told. -/
theorem lres_sound {ρ : Ren} {st st' : St} {w w' : World} {v : CV} {v' : Value} {n k : Nat} {c m t : Int} (hw : WR ρ st w) (h : lres n k c m t st = .ok v st')
    (hrow : w'.ownsRow w.heap.size 201 4 v' 1 (Lease.L4.mk (strB n k) c m t).cs) (hbl : Go.RowKit.Below w.heap.size w w') : ∃ ρ', VR ρ' v v' ∧ After ρ st w ρ' st' w' := by
  unfold lres at h
  rw [forceB_eq] at h
  cases h
  rcases hrow.2 with ⟨q1, q2⟩ | ⟨gg, cap, cur, q1, q2, q3, q4, q5, q6, q7⟩
  · cases q2
  · have hsz : (rowL n k c m t).size = 4 := rfl
    have hr0 : VRs (ρ.set st.next (gg, cur.size)) (row (rowL n k c m t)) (Lease.L4.mk (strB n k) c m t).cs := VRs.cons (.str _ _) (VRs.cons (.int _ _) (VRs.cons (.int _ _) (VRs.cons (.int _ _) (VRs.nil _))))
    have hiv : VRs (ρ.set st.next (gg, cur.size)) (row (rowL n k c m t)) (cur.toList.take (rowL n k c m t).size) := by
      rw [hsz]; have q7' : cur.toList.take 4 = _ := q7; rw [q7']; exact hr0
    have hbr := BR.cells (ρ := ρ.set st.next (gg, cur.size)) (rowL n k c m t) 201 true cur 0 0 (by rw [hsz, q6]; omega) hiv (by omega) (fun hh => by cases hh)
    have hA := After.later hw hbl q2 q3 hbr
    refine ⟨_, ?_, hA⟩
    rw [q1]
    exact .sliceG _ 0 0 _ _ cap 4 gg cur.size (Ren.set_same _ _ _) (by omega) (Nat.le_refl _) (by omega) (fun _ => rfl) (by omega)
noncomputable def outG : FunX := fun _ args st => match args with
  | [.ptr tb 0, .str n kv, .int .i64 now] => (match tableE tb st with
    | .no => .ok .nilslice st
    | .one n2 k2 c m t => bsel (Bool.and (zlt now t) (seq n2 k2 n kv)) (lres n2 k2 c m t st) (.ok .nilslice st)
    | .bad => .bad)
  | _ => .bad
theorem outG_sound (call : CallF) (args : List CV) (st : St) (v : CV) (st' : St) (h : outG call args st = .ok v st') : CallOut Tryz.prog 108 args st v st' := by
  unfold outG at h
  split at h
  · rename_i tb n kv now
    refine .inl ⟨by kernel_rfl, fun ρ w args' hw ha => ?_⟩
    obtain ⟨x1, t1, e1, hx1, ha1⟩ := ha.inv
    obtain ⟨x2, t2, e2, hx2, ha2⟩ := ha1.inv
    obtain ⟨x3, t3, e3, hx3, ha3⟩ := ha2.inv
    have e4 : t3 = [] := by have := ha3.len; simpa using this.symm
    subst e4; subst e3; subst e2
    have e5 : args' = #[x1, x2, x3] := by rw [← Array.toArray_toList (xs := args'), e1]
    subst e5
    cases hx2; cases hx3
    cases hx1 with
    | ptr _ _ r sz hr =>
      have hnb : tableE tb st ≠ .bad := by intro e; rw [e] at h; cases h
      obtain ⟨mr, es, clock, c1, c2, c3⟩ := table_is hw hr hnb
      refine (callsIn_wide.1 (Lease.Out_in r mr clock es _ c3 (strB n kv) now w c1 c2)).mono ?_
      rintro e w' ⟨v', rfl, hrow, hnil, hbl⟩
      cases hT : tableE tb st with
      | no =>
        rw [hT] at h hnil; cases h
        rw [hnil.2 rfl]
        exact ⟨_, ρ, rfl, .nilslice, After.below hw hbl⟩
      | bad => exact absurd hT hnb
      | one n2 k2 c m t =>
        rw [hT] at h hnil hrow
        simp only [bsel_eq, Bool.and_eq_true, zlt_iff, seq_toList] at h
        split at h
        · rename_i hh
          have e6 : Lease.ofKey (strB n kv) (Lease.outL now (LE.one n2 k2 c m t).l4) = [⟨strB n2 k2, c, m, t⟩] := by
            simp only [Lease.ofKey, Lease.outL, LE.l4, if_pos hh.1, List.filter_cons, hh.2]; rfl
          rw [e6] at hrow
          obtain ⟨ρ', g1, g2⟩ := lres_sound hw h hrow hbl
          exact ⟨_, ρ', rfl, g1, g2⟩
        · rename_i hh
          cases h
          have e6 : Lease.ofKey (strB n kv) (Lease.outL now (LE.one n2 k2 c m t).l4) = [] := by
            simp only [Lease.ofKey, Lease.outL, LE.l4]
            split
            · rename_i h1
              have : ((strB n2 k2).toList == (strB n kv).toList) = false := by
                cases h2 : ((strB n2 k2).toList == (strB n kv).toList) with
                | true => exact absurd ⟨h1, h2⟩ hh
                | false => rfl
              rw [List.filter_cons, this]; rfl
            · rfl
          rw [hnil.2 e6]
          exact ⟨_, ρ, rfl, .nilslice, After.below hw hbl⟩
  · cases h
noncomputable def allG : FunX := fun _ args st => match args with
  | [.ptr tb 0, .int .i64 now] => (match tableE tb st with
    | .no => .ok .nilslice st
    | .one n2 k2 c m t => bsel (zlt now t) (lres n2 k2 c m t st) (.ok .nilslice st)
    | .bad => .bad)
  | _ => .bad
theorem allG_sound (call : CallF) (args : List CV) (st : St) (v : CV) (st' : St) (h : allG call args st = .ok v st') : CallOut Tryz.prog 68 args st v st' := by
  unfold allG at h
  split at h
  · rename_i tb now
    refine .inl ⟨by kernel_rfl, fun ρ w args' hw ha => ?_⟩
    obtain ⟨x1, t1, e1, hx1, ha1⟩ := ha.inv
    obtain ⟨x2, t2, e2, hx2, ha2⟩ := ha1.inv
    have e4 : t2 = [] := by have := ha2.len; simpa using this.symm
    subst e4; subst e2
    have e5 : args' = #[x1, x2] := by rw [← Array.toArray_toList (xs := args'), e1]
    subst e5
    cases hx2
    cases hx1 with
    | ptr _ _ r sz hr =>
      have hnb : tableE tb st ≠ .bad := by intro e; rw [e] at h; cases h
      obtain ⟨mr, es, clock, c1, c2, c3⟩ := table_is hw hr hnb
      refine (Lease.All_is r mr clock es _ c3 now w c1 c2).mono ?_
      rintro e w' ⟨v', rfl, hrow, hnil, hbl⟩
      cases hT : tableE tb st with
      | no =>
        rw [hT] at h hnil; cases h
        rw [hnil.2 rfl]
        exact ⟨_, ρ, rfl, .nilslice, After.below hw hbl⟩
      | bad => exact absurd hT hnb
      | one n2 k2 c m t =>
        rw [hT] at h hnil hrow
        simp only [bsel_eq, zlt_iff] at h
        split at h
        · rename_i hh
          have e6 : Lease.outL now (LE.one n2 k2 c m t).l4 = [⟨strB n2 k2, c, m, t⟩] := by
            simp [Lease.outL, LE.l4, hh]
          rw [e6] at hrow
          obtain ⟨ρ', g1, g2⟩ := lres_sound hw h hrow hbl
          exact ⟨_, ρ', rfl, g1, g2⟩
        · rename_i hh
          cases h
          have e6 : Lease.outL now (LE.one n2 k2 c m t).l4 = [] := by
            simp [Lease.outL, LE.l4, hh]
          rw [hnil.2 e6]
          exact ⟨_, ρ, rfl, .nilslice, After.below hw hbl⟩
  · cases h
noncomputable def dPlace : EqD := .struct (.cons 0 1 false .str (.cons 1 1 false .int .nil))
theorem eqd293 : eqDesc Tryz.prog 100 293 = some dPlace := by kernel_rfl
theorem deep293 : deepKey 100 dPlace = true := by kernel_rfl
noncomputable def backD (mb : Bp) (key : CV) (st : St) : OR := match pDelete dPlace (.map mb) key st with
  | .ok _ st' => .ok (.bool true) st'
  | .bad => .bad
noncomputable def backG : FunX := fun _ args st => match args with
  | [.ptr tb 0, .int .i64 cache, .int .i64 number] => (match st.mem.get tb with
    | some (.cells (.one _ (.one _ (.one _ (.one _ (.one (.map mb) _))))) _ _) => (match st.mem.get mb with
      | some (.map [(.agg (.one (.str kn kk) (.one (.int .i64 kc) .nil)), .agg (.one (.str n k) (.one (.int .i64 c) (.one (.int .i64 m) (.one (.int .i64 t) .nil)))), bn)] clock) =>
        bsel (Bool.and (Nat.ble (Nat.succ bn) clock) (Bool.and (zeq c cache) (zeq m number))) (backD mb (.agg (.one (.str kn kk) (.one (.int .i64 kc) .nil))) st) .bad
      | _ => .bad)
    | _ => .bad)
  | _ => .bad
theorem VRs2 {ρ : Ren} {n k : Nat} {c : Int} {l : List Value} (h : VRs ρ (row (.one (.str n k) (.one (.int .i64 c) .nil))) l) : l = [.string (strB n k), .int .i64 c] := by
  obtain ⟨a, r1, rfl, h1, k1⟩ := h.inv
  obtain ⟨b, r2, rfl, h2, k2⟩ := VRs.inv k1
  have e5 : r2 = [] := List.length_eq_zero_iff.1 k2.len.symm
  subst e5
  cases h1; cases h2
  rfl
theorem backG_sound (call : CallF) (args : List CV) (st : St) (v : CV) (st' : St) (h : backG call args st = .ok v st') : CallOut Tryz.prog 111 args st v st' := by
  unfold backG at h
  split at h
  · rename_i tb cache number
    split at h
    · rename_i x0 x1 x2 x3 mb x5 ty g htb
      split at h
      · rename_i kn kk kc n k c m t bn clock hmb
        rw [bsel_eq] at h
        split at h
        · rename_i hh
          rw [Bool.and_eq_true, Bool.and_eq_true, Nat.ble_eq, zeq_iff, zeq_iff] at hh
          obtain ⟨hlt, rfl, rfl⟩ := hh
          refine .inl ⟨by kernel_rfl, fun ρ w args' hw ha => ?_⟩
          obtain ⟨x1, t1, e1, hx1, ha1⟩ := ha.inv
          obtain ⟨x2, t2, e2, hx2, ha2⟩ := ha1.inv
          obtain ⟨x3, t3, e3, hx3, ha3⟩ := ha2.inv
          have e4 : t3 = [] := by have := ha3.len; simpa using this.symm
          subst e4; subst e3; subst e2
          have e5 : args' = #[x1, x2, x3] := by rw [← Array.toArray_toList (xs := args'), e1]
          subst e5
          cases hx2; cases hx3
          cases hx1 with
          | ptr _ _ r sz hr =>
            obtain ⟨cc, lo, hi, a1, a2, a3, a4, a5⟩ := hw.row htb hr
            obtain ⟨m', hm1, hm2⟩ := a4.get (i := 4) (v := .map mb) rfl
            cases hm2 with
            | map _ mr sz2 hmr =>
              obtain ⟨es', b1, b2, b3⟩ := hw.map hmb hmr
              have hcell : w.cell? ⟨r, 4, none⟩ = some (.map (some mr)) := by
                rw [List.getElem?_take] at hm1
                split at hm1
                · simp only [World.cell?, a1]; simpa using hm1
                · cases hm1
              obtain ⟨e, rfl⟩ : ∃ e, es' = [e] := List.length_eq_one_iff.1 b2.symm
              obtain ⟨g1, g2, g3⟩ := b3 0 _ _ rfl rfl
              obtain ⟨ek, ev, eb⟩ := e
              simp only at g3
              subst g3
              simp only at g1
              have hkey := g1
              cases g1 with
              | agg _ kl khl khh =>
                have := VRs2 (VRs.mk (ρ := ρ) khl khh)
                subst this
                cases g2 with
                | agg _ l hl hh2 =>
                  have := VRs4 (VRs.mk (ρ := ρ) hl hh2)
                  subst this
                  unfold backD at h
                  split at h
                  · rename_i v0 st0 hd
                    cases h
                    refine (Lease.Back_one r mr clock (strB kn kk) kc (strB n k) c m t bn hlt w hcell b1 (fun w' => ∃ ρ', After ρ st w ρ' st' w') ?_).mono ?_
                    · intro W ty hbl
                      have hA := After.below hw hbl
                      obtain ⟨v', W', ρ', hrun, hv, hA2⟩ := pDelete_sound (P := Tryz.prog) (ty := ty) (ats := #[189, 293]) (t := 189) rfl hd hA.wr (.map _ _ _ hmr) hkey Tryz.underlying189 eqd293 (by omega) deep293
                      refine ⟨W', ?_, ρ', hA.trans hA2⟩
                      have : v' = .tuple #[] := by
                        unfold pDelete at hd
                        rw [bsel_eq] at hd
                        split at hd
                        · simp only [hmb] at hd
                          split at hd <;> first | (cases hd; cases hv; rfl) | cases hd
                        · cases hd
                      rw [← this]; exact hrun
                    · rintro e w' ⟨rfl, ρ', hA⟩
                      exact ⟨_, ρ', rfl, .bool _, hA⟩
                  · cases h
        · cases h
      · cases h
    · cases h
  · cases h
end Sim
