import Derived.Test.YtfojoloiahhphaaGreatDoorProg
import Derived.WalkKit
import Derived.LaidEql
import Derived.Stop.Asserts
import Derived.RowKitTokens
import Derived.Test.YtfojoloiahhphaaGreatDoorSimI6
/- errors.As at an error that is a number, and at a target of the same type: the target gets it (after the worked toy ToyasAs). -/
namespace Sim.Told
open Go Go.RowKit Go.Extern.Stop Go.Stop Go.Extern Go.Proofs

theorem valueOf159 (t : Addr) (w : World) : (ReflectliteValue.unpack (.iface 159 (.pointer (some t)))).run Tryz.prog w
    = .ok (.agg #[.pointer (some ⟨3, 159, none⟩), .pointer (some ⟨w.heap.size, 0, none⟩), .int .u64 150]) (w.alloc (.cells #[.pointer (some t)] 159)) := by kernel_rfl
theorem type159 (a : Addr) (w : World) : (ReflectliteValue.methodAny (ReflectliteValue.valueError "reflectlite.Value.Type" 0) (fun t _ _ _ => ReflectliteType.toType t) #[.agg #[.pointer (some ⟨3, 159, none⟩), .pointer (some a), .int .u64 150]]).run Tryz.prog w
    = .ok (.iface 314 (.agg #[.pointer (some ⟨3, 159, none⟩)])) w := by kernel_rfl
theorem methodKind (h : Value) (w : World) : (Go.method 557 314 (.agg #[h]) "Kind").run Tryz.prog w = .ok (325, h) w := by kernel_rfl
theorem kind159 (w : World) : ((ReflectliteType.abiMethod fun t => (fun a : Nat => Value.int IntKind.u8 (a : Int)) <$> Rtype.kind t) #[.pointer (some ⟨3, 159, none⟩)]).run Tryz.prog w = .ok (.int .u8 22) w := by kernel_rfl
theorem kind27 (w : World) : ((ReflectliteType.abiMethod fun t => (fun a : Nat => Value.int IntKind.u8 (a : Int)) <$> Rtype.kind t) #[.pointer (some ⟨3, 27, none⟩)]).run Tryz.prog w = .ok (.int .u8 2) w := by kernel_rfl

theorem rlm (z : Sem Value) (f : TypeId → Addr → Nat → Nat → Sem Value) (v : Value) :
    ReflectliteValue.method z f #[v] = (do match ← ReflectliteValue.parts v with | none => z | some (t, a, fl) => f t a fl (fl % 32)) := rfl
theorem parts159 (a : Addr) (w : World) : (ReflectliteValue.parts (.agg #[.pointer (some ⟨3, 159, none⟩), .pointer (some a), .int .u64 150])).run Tryz.prog w = .ok (some (159, a, 150)) w := by kernel_rfl
theorem isNil159 (a p : Addr) (W : World) (ha : W.cell? a = some (.pointer (some p))) :
    (ReflectliteValue.method (ReflectliteValue.valueError "reflectlite.Value.IsNil" 0) ReflectliteValue.isNil #[.agg #[.pointer (some ⟨3, 159, none⟩), .pointer (some a), .int .u64 150]]).run Tryz.prog W = .ok (.bool false) W := by
  rw [rlm]
  simp only [Sem.run_bind, parts159, Result.andThen]
  simp [ReflectliteValue.isNil, loadVar, isAgg, underlying, Tryz.underlying159, ha, Result.andThen]
theorem methodElem (h : Value) (w : World) : (Go.method 557 314 (.agg #[h]) "Elem").run Tryz.prog w = .ok (336, .agg #[h]) w := by kernel_rfl
theorem methodImplements (h : Value) (w : World) : (Go.method 557 314 (.agg #[h]) "Implements").run Tryz.prog w = .ok (337, .agg #[h]) w := by kernel_rfl
theorem methodAssignableTo (h : Value) (w : World) : (Go.method 557 314 (.agg #[h]) "AssignableTo").run Tryz.prog w = .ok (334, .agg #[h]) w := by kernel_rfl
theorem elem159 (w : World) : (ReflectliteType.method ReflectliteType.elem #[.agg #[.pointer (some ⟨3, 159, none⟩)]]).run Tryz.prog w = .ok (.iface 314 (.agg #[.pointer (some ⟨3, 27, none⟩)])) w := by kernel_rfl
theorem implements27 (w : World) : (ReflectliteType.relation "Implements" ReflectliteType.implements_ #[.agg #[.pointer (some ⟨3, 27, none⟩)], .iface 314 (.agg #[.pointer (some ⟨3, 90, none⟩)])]).run Tryz.prog w = .ok (.bool true) w := by kernel_rfl
theorem typeOf27 (v : Value) (w : World) : (ReflectliteType.typeOf #[.iface 27 v]).run Tryz.prog w = .ok (.iface 314 (.agg #[.pointer (some ⟨3, 27, none⟩)])) w := by kernel_rfl
theorem assignable27 (w : World) : (ReflectliteType.relation "AssignableTo" ReflectliteType.assignableTo #[.agg #[.pointer (some ⟨3, 27, none⟩)], .iface 314 (.agg #[.pointer (some ⟨3, 27, none⟩)])]).run Tryz.prog w = .ok (.bool true) w := by kernel_rfl
theorem valueOf27 (n : Int) (w : World) : (ReflectliteValue.unpack (.iface 27 (.int .i64 n))).run Tryz.prog w
    = .ok (.agg #[.pointer (some ⟨3, 27, none⟩), .pointer (some ⟨w.heap.size, 0, none⟩), .int .u64 130]) (w.alloc (.cells #[.int .i64 n] 27)) := by kernel_rfl
theorem elemOf159 (w : World) : (Rtype.elem? 159).run Tryz.prog w = .ok (some 27) w := by kernel_rfl
theorem mk27 (p : Addr) (w : World) : (ReflectliteValue.mk 27 p ReflectliteValue.flagAddr).run Tryz.prog w = .ok (.agg #[.pointer (some ⟨3, 27, none⟩), .pointer (some p), .int .u64 386]) w := by kernel_rfl
theorem elemV159 (a p : Addr) (W : World) (ha : W.cell? a = some (.pointer (some p))) :
    (ReflectliteValue.method (ReflectliteValue.valueError "reflectlite.Value.Elem" 0) ReflectliteValue.elem #[.agg #[.pointer (some ⟨3, 159, none⟩), .pointer (some a), .int .u64 150]]).run Tryz.prog W
      = .ok (.agg #[.pointer (some ⟨3, 27, none⟩), .pointer (some p), .int .u64 386]) W := by
  rw [rlm]
  simp only [Sem.run_bind, parts159, Result.andThen]
  simp [ReflectliteValue.elem, loadVar, isAgg, underlying, Tryz.underlying159, ha, Result.andThen, elemOf159, mk27]
theorem rls (v x : Value) : ReflectliteValue.set #[v, x] = (do
    let (some (dst, a, fl), some (src, b, _)) := (← ReflectliteValue.parts v, ← ReflectliteValue.parts x)
      | unsupported (.noEntry "extern/(internal/reflectlite.Value).Set.zeroValue")
    if fl / ReflectliteValue.flagAddr % 2 == 0 then unsupported (.noEntry "extern/(internal/reflectlite.Value).Set.unaddressable")
    let val ← loadVar src b
    if ← Rtype.directlyAssignable dst src then storeVar dst a val
    else if ← Rtype.implements dst src then
      if (← Rtype.kind src) == 20 then
        match val with
        | .nilIface => unsupported (.noEntry "extern/reflectlite: a nil value of one interface type handed on as a value of another")
        | _ => storeVar dst a val
      else storeVar dst a (.iface src val)
    else panicString ("reflectlite.Set: value of type " ++ (← Rtype.spelt src) ++ " is not assignable to type " ++ (← Rtype.spelt dst))
    pure (.tuple #[])) := rfl
theorem parts27a (a : Addr) (w : World) : (ReflectliteValue.parts (.agg #[.pointer (some ⟨3, 27, none⟩), .pointer (some a), .int .u64 386])).run Tryz.prog w = .ok (some (27, a, 386)) w := by kernel_rfl
theorem parts27 (a : Addr) (w : World) : (ReflectliteValue.parts (.agg #[.pointer (some ⟨3, 27, none⟩), .pointer (some a), .int .u64 130])).run Tryz.prog w = .ok (some (27, a, 130)) w := by kernel_rfl
theorem direct27 (w : World) : (Rtype.directlyAssignable 27 27).run Tryz.prog w = .ok true w := by kernel_rfl
theorem set27 (ta b : Addr) (n : Int) (old : Value) (W : World) (hb : W.cell? b = some (.int .i64 n)) (ht : W.cell? ta = some old) (hf : W.frozen? ta = false) :
    (ReflectliteValue.set #[.agg #[.pointer (some ⟨3, 27, none⟩), .pointer (some ta), .int .u64 386], .agg #[.pointer (some ⟨3, 27, none⟩), .pointer (some b), .int .u64 130]]).run Tryz.prog W
      = .ok (.tuple #[]) (W.setCell ta (.int .i64 n)) := by
  rw [rls]
  simp only [Sem.run_bind, parts27a, parts27, Result.andThen]
  simp [ReflectliteValue.flagAddr, loadVar, isAgg, underlying, Tryz.underlying27, hb, Result.andThen, direct27, storeVar, Value.cells, storeCells, Addr.add]
  rw [run_store Tryz.prog W ta _ _ (by rfl)]
  simp [ht, hf]
end Sim.Told

namespace Sim.Told
open Go Go.RowKit Go.Extern.Stop Go.Stop Go.Extern Go.Proofs

theorem cell_lt {w : World} {a : Addr} {v : Value} (h : w.cell? a = some v) : a.block < w.heap.size := by
  rcases Nat.lt_or_ge a.block w.heap.size with k | k
  · exact k
  · simp [World.cell?, Array.getElem?_eq_none k] at h
abbrev W1 (a : Addr) (w : World) : World := w.alloc (.cells #[.pointer (some ⟨3, 159, none⟩), .pointer (some a), .int .u64 150] 232)
abbrev V2 (t : Addr) (w : World) : World := (w.alloc (.cells #[.pointer (some t)] 159)).alloc (.cells #[.pointer (some ⟨3, 159, none⟩), .pointer (some ⟨w.heap.size, 0, none⟩), .int .u64 150] 232)
abbrev W2 (n : Int) (a : Addr) (w : World) : World := (W1 a w).alloc (.cells #[.int .i64 n] 27)

set_option maxHeartbeats 4000000 in
set_option maxRecDepth 100000 in
theorem as_in (n : Int) (t a : Addr) (old : Value) (w : World) (ha : w.cell? a = some (.pointer (some t))) (ht0 : w.cell? t = some old) (hf0 : w.frozen? t = false) :
    Calls Tryz.prog 130 #[.iface 27 (.int .i64 n), .iface 159 (.pointer (some t)), .agg #[.pointer (some ⟨3, 159, none⟩), .pointer (some a), .int .u64 150], .iface 314 (.agg #[.pointer (some ⟨3, 27, none⟩)])] w
      fun ev w' => ev = .returned (.bool true) ∧ w' = (W2 n a w).setCell t (.int .i64 n) := by
  have h127 := @run_callFunc_extern Tryz.prog 127 _ (fun args => ReflectliteValue.unpack (args.getD 0 (.tuple #[]))) Tryz.func127 (by kernel_rfl) (by kernel_rfl) (by kernel_rfl) (by kernel_rfl)
  have h188 := @run_callFunc_extern Tryz.prog 188 _ ReflectliteType.typeOf Tryz.func188 (by kernel_rfl) (by kernel_rfl) (by kernel_rfl) (by kernel_rfl)
  have h334 := @run_callFunc_extern Tryz.prog 334 _ (ReflectliteType.relation "AssignableTo" ReflectliteType.assignableTo) Tryz.func334 (by kernel_rfl) (by kernel_rfl) (by kernel_rfl) (by kernel_rfl)
  have h189 := @run_callFunc_extern Tryz.prog 189 _ (ReflectliteValue.method (ReflectliteValue.valueError "reflectlite.Value.Elem" 0) ReflectliteValue.elem) Tryz.func189 (by kernel_rfl) (by kernel_rfl) (by kernel_rfl) (by kernel_rfl)
  have h190 := @run_callFunc_extern Tryz.prog 190 _ ReflectliteValue.set Tryz.func190 (by kernel_rfl) (by kernel_rfl) (by kernel_rfl) (by kernel_rfl)
  have tO := typeOf27
  have mA := methodAssignableTo
  have a25 := assignable27
  have v25 := valueOf27
  have hla := cell_lt ha
  have hlt := cell_lt ht0
  have el := elemV159 a t (W1 a w) (by rw [World.cell?_alloc_lt _ _ a hla]; exact ha)
  have st := set27 t ⟨w.heap.size + 1, 0, none⟩ n old (W2 n a w)
    (by rw [World.cell?_alloc_at _ _ _ _ (by simp)]; rfl)
    (by rw [World.cell?_alloc_lt _ _ t (by simp; omega), World.cell?_alloc_lt _ _ t hlt]; exact ht0)
    (by rw [World.frozen?_alloc_old _ _ t (by simp; omega), World.frozen?_alloc_old _ _ t (Nat.ne_of_lt hlt)]; exact hf0)
  go_enter Tryz.func130, Tryz.ntmps130
  go_wp2
  refine wp_loop_rounds 1 ?_
  rw [rounds_succ]
  go_wp2
  go_ret
  exact ⟨rfl, rfl⟩
set_option maxHeartbeats 4000000 in
set_option maxRecDepth 100000 in
theorem as_hit (n : Int) (t : Addr) (old : Value) (w : World) (hg : w.cell? ⟨0, 0, none⟩ = some (.iface 314 (.agg #[.pointer (some ⟨3, 90, none⟩)]))) (ht0 : w.cell? t = some old) (hf0 : w.frozen? t = false) :
    Calls Tryz.prog 73 #[.iface 27 (.int .i64 n), .iface 159 (.pointer (some t))] w fun ev w' => ev = .returned (.bool true) ∧ w' = (W2 n ⟨w.heap.size, 0, none⟩ (V2 t w)).setCell t (.int .i64 n) := by
  have h127 := @run_callFunc_extern Tryz.prog 127 _ (fun args => ReflectliteValue.unpack (args.getD 0 (.tuple #[]))) Tryz.func127 (by kernel_rfl) (by kernel_rfl) (by kernel_rfl) (by kernel_rfl)
  have h128 := @run_callFunc_extern Tryz.prog 128 _ (ReflectliteValue.methodAny (ReflectliteValue.valueError "reflectlite.Value.Type" 0) (fun t _ _ _ => ReflectliteType.toType t)) Tryz.func128 (by kernel_rfl) (by kernel_rfl) (by kernel_rfl) (by kernel_rfl)
  have h129 := @run_callFunc_extern Tryz.prog 129 _ (ReflectliteValue.method (ReflectliteValue.valueError "reflectlite.Value.IsNil" 0) ReflectliteValue.isNil) Tryz.func129 (by kernel_rfl) (by kernel_rfl) (by kernel_rfl) (by kernel_rfl)
  have h325 := @run_callFunc_extern Tryz.prog 325 _ (ReflectliteType.abiMethod fun t => do pure (.int .u8 (← Rtype.kind t))) Tryz.func325 (by kernel_rfl) (by kernel_rfl) (by kernel_rfl) (by kernel_rfl)
  have h336 := @run_callFunc_extern Tryz.prog 336 _ (ReflectliteType.method ReflectliteType.elem) Tryz.func336 (by kernel_rfl) (by kernel_rfl) (by kernel_rfl) (by kernel_rfl)
  have h337 := @run_callFunc_extern Tryz.prog 337 _ (ReflectliteType.relation "Implements" ReflectliteType.implements_) Tryz.func337 (by kernel_rfl) (by kernel_rfl) (by kernel_rfl) (by kernel_rfl)
  have f6 := valueOf159
  have f7 := type159
  have mK := methodKind
  have mE := methodElem
  have mI := methodImplements
  have k27 := kind159
  have k25 := kind27
  have e27 := elem159
  have i25 := implements27
  have hlt := cell_lt ht0
  have hl0 := cell_lt hg
  have n8 := isNil159 ⟨w.heap.size, 0, none⟩ t (V2 t w) (by simp)
  have hg2 : (V2 t w).cell? ⟨0, 0, none⟩ = some (.iface 314 (.agg #[.pointer (some ⟨3, 90, none⟩)])) := by
    rw [World.cell?_alloc_lt _ _ ⟨0, 0, none⟩ (by simp), World.cell?_alloc_lt _ _ ⟨0, 0, none⟩ hl0]; exact hg
  have hc := as_in n t ⟨w.heap.size, 0, none⟩ old (V2 t w) (by simp)
    (by rw [World.cell?_alloc_lt _ _ t (by simp; omega), World.cell?_alloc_lt _ _ t hlt]; exact ht0)
    (by rw [World.frozen?_alloc_old _ _ t (by simp; omega), World.frozen?_alloc_old _ _ t (Nat.ne_of_lt hlt)]; exact hf0)
  go_enter Tryz.func73, Tryz.ntmps73
  go_wp2_with (first | (go_at_call 130; refine hc.mono ?_; rintro e w' ⟨rfl, rfl⟩))
  go_ret
  exact ⟨rfl, rfl⟩
end Sim.Told


namespace Sim.Told
open Go Go.RowKit Go.Extern.Stop Go.Stop Go.Extern Go.Proofs


set_option maxHeartbeats 4000000 in
set_option maxRecDepth 100000 in
theorem told (n : Int) (w : World) (hg : w.cell? ⟨0, 0, none⟩ = some (.iface 314 (.agg #[.pointer (some ⟨3, 90, none⟩)]))) :
    Calls Tryz.prog 29 #[.iface 27 (.int .i64 n)] w fun ev w' => ev = .returned (.int .i64 n) ∧ Below w.heap.size w w' := by
  have hl0 := cell_lt hg
  have hc := as_hit n ⟨w.heap.size, 0, none⟩ (.int .i64 0) (w.alloc (.cells #[.int .i64 0] 27)) (by rw [World.cell?_alloc_lt _ _ ⟨0, 0, none⟩ hl0]; exact hg) (by simp) (by simp)
  go_enter Tryz.func29, Tryz.ntmps29
  go_wp2_with (first | (go_at_call 73; refine hc.mono ?_; rintro e w' ⟨rfl, rfl⟩))
  go_ret
  refine ⟨rfl, ?_⟩
  exact ((((Below.refl _ w).alloc (Nat.le_refl _) _).alloc (by simp; try omega) _).alloc (by simp; try omega) _).alloc (by simp; try omega) _ |>.alloc (by simp; try omega) _
end Sim.Told

/- shard.told at an error that is a number, as an intrinsic. -/
namespace Sim
open Go Go.Proofs
noncomputable def toldG (F : FunX) : FunX := fun call args st => match args with
  | [.iface t (.int k n)] => bsel (Bool.and (Nat.beq t 27) (kbeq k .i64)) (.ok (.int .i64 n) st) (F call args st)
  | _ => F call args st
theorem toldG_sound {call : CallF} {F : FunX} (hm : Tryz.prog.follows .mixedOrders = true) (hF : funXK Tryz.prog 29 = some F) (hc : CallSound Tryz.prog call) (args : List CV) (st : St) (v : CV) (st' : St) (h : toldG F call args st = .ok v st') : CallOut Tryz.prog 29 args st v st' := by
  unfold toldG at h
  split at h
  · rename_i t k n
    rw [bsel_eq] at h
    split at h
    · rename_i hh
      rw [Bool.and_eq_true, Nat.beq_eq, kbeq_iff] at hh
      obtain ⟨rfl, rfl⟩ := hh
      cases h
      refine .inl ⟨by kernel_rfl, fun ρ w args' hw ha => ?_⟩
      obtain ⟨x', t', e1, hx, ha2⟩ := ha.inv
      have e3 : t' = [] := by have := ha2.len; simpa using this.symm
      subst e3
      have e4 : args' = #[x'] := by rw [← Array.toArray_toList (xs := args'), e1]
      subst e4
      cases hx with
      | iface _ _ y hy =>
        cases hy
        refine (Told.told n w ((hw.glob 0 _ (by simp [globs])).1)).mono ?_
        rintro e w' ⟨rfl, hb⟩
        exact ⟨_, ρ, rfl, .int _ _, After.below hw hb⟩
    · exact .inl (funXK_plain hm hF hc h)
  · exact .inl (funXK_plain hm hF hc h)
end Sim
