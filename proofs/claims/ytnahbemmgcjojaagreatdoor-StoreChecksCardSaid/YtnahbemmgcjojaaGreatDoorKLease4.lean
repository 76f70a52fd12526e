import Derived.Test.YtnahbemmgcjojaaGreatDoorProg
import Derived.RangeFuncNested
import Derived.RangeFuncBound
import Derived.RangeFuncCalls
import Derived.RangeFuncLeaves
import Derived.Shelf.Abstract
import Derived.Shelf.RegionOpen
import Derived.WalkKit
import Derived.OwnWalkIn
import Derived.TacticsInMore
import Derived.LoopNIn
import Derived.LoopIn
import Derived.IntWalk
import Derived.RangeFuncWrites
import Derived.Maps.AppendAt
import Derived.Laws.IdiomRangeMap
import Derived.Maps.RangeRun
namespace Sim.Lease
open Go Go.RowKit Go.Shelf Go.Proofs
set_option linter.unusedVariables false
attribute [local go_sem] Oper.semAt_some
theorem hp_new (w:World)(o:Obj):(w.alloc o).heap[w.heap.size]?=some o:=by
 show(w.heap.push o)[w.heap.size]?=_;simp
theorem hp_old (w:World)(o:Obj)(i:Nat)(h:i<w.heap.size):(w.alloc o).heap[i]?=w.heap[i]?:=by
 show(w.heap.push o)[i]?=_;rw[Array.getElem?_push,if_neg (by omega)]
theorem out_in (n:Nat)(p0:Option Addr)(now:Int)(w:World):
 CallsIn Fence.wide n Tryz.prog 70 #[.pointer p0, .int .i64 now] w fun e w'=>e= .returned (.func (.func 112) #[] #[.pointer (some ⟨w.heap.size,0,none⟩), .pointer (some ⟨w.heap.size+1,0,none⟩)])∧
  w'=(w.alloc (.cells #[.pointer p0] 106)).alloc (.cells #[.int .i64 now] 3):=by
 refine callsIn_of_wp Tryz.func70 rfl trivial ?_ rfl;simp only[Tryz.ntmps70,List.size_toArray,List.length_cons,List.length_nil,Nat.reduceAdd,Nat.reduceSub,Array.replicate_succ,Array.replicate_zero,List.push_toArray,List.append_toArray,List.nil_append,List.cons_append]
 gi_wp2
 go_ret
 exact⟨rfl,rfl⟩
theorem ins_small (v cmp:Value)(n:Int)(h0:0≤n)(h1:n≤1)(w:World):Calls Tryz.prog 169 #[v, .int .i64 0, .int .i64 n,cmp] w fun e w'=>e= .returned (.tuple #[])∧w'=w:=by
 have hn:¬(1<n):=by omega
 go_enter Tryz.func169,Tryz.ntmps169
 go_wp2
 refine wp_loop_rounds 1 ?_;rw[rounds_succ]
 go_wp2
 go_end0
 exact⟨rfl,rfl⟩
theorem pdq_small (v cmp b:Value)(n:Int)(h0:0≤n)(h1:n≤1)(w:World):Calls Tryz.prog 148 #[v, .int .i64 0, .int .i64 n,b,cmp] w fun e w'=>e= .returned (.tuple #[])∧w'=w:=by
 have hn:n≤12:=by omega
 have hs:IntKind.i64.wrap (n-0)=n:=by rw[Int.sub_zero];exact IntWalk.i64_in _ (by omega)
 go_enter Tryz.func148,Tryz.ntmps148
 go_wp2
 refine wp_loop_rounds 1 ?_;rw[rounds_succ]
 go_wp2_with (first|(go_at_call 169;refine(ins_small _ _ n h0 h1 _).mono ?_;rintro e w' ⟨rfl,rfl⟩))
 refine bodyPost_ret (results_none rfl _ _ _) rfl ?_;exact⟨rfl,rfl⟩
set_option maxRecDepth 100000 in
theorem len64_0 (w:World):Calls Tryz.prog 178 #[.int .u64 0] w fun e w'=>e= .returned (.int .i64 0)∧w'=w:=by
 go_enter Tryz.func178,Tryz.ntmps178
 go_wp2
 go_ret
 exact⟨by kernel_rfl,rfl⟩
set_option maxRecDepth 100000 in
theorem len64_1 (w:World):Calls Tryz.prog 178 #[.int .u64 1] w fun e w'=>e= .returned (.int .i64 1)∧w'=w:=by
 go_enter Tryz.func178,Tryz.ntmps178
 go_wp2
 go_ret
 exact⟨by kernel_rfl,rfl⟩
theorem len_small (n:Nat)(h1:n≤1)(w:World):Calls Tryz.prog 149 #[.int .u64 n] w fun e w'=>e= .returned (.int .i64 n)∧w'=w:=by
 have hc:Calls Tryz.prog 178 #[.int .u64 n] w fun e w'=>e= .returned (.int .i64 n)∧w'=w:=by
  rcases Nat.le_one_iff_eq_zero_or_eq_one.1 h1 with rfl|rfl
  ·exact len64_0 w
  ·exact len64_1 w
 go_enter Tryz.func149,Tryz.ntmps149
 go_wp2_with (first|(go_at_call 178;refine hc.mono ?_;rintro e w' ⟨rfl,rfl⟩))
 go_ret
 exact⟨rfl,rfl⟩
theorem sort_small (a:Option Addr)(cap:Nat)(cmp:Value)(n:Nat)(h1:n≤1)(w:World):Calls Tryz.prog 111 #[.slice a n cap,cmp] w fun e w'=>e= .returned (.tuple #[])∧w'=w:=by
 go_enter Tryz.func111,Tryz.ntmps111
 go_wp2_with (first|(go_at_call 149;refine(len_small n h1 _).mono ?_;rintro e w' ⟨rfl,rfl⟩)|(go_at_call 148;refine(pdq_small _ _ _ n (by omega) (by omega) _).mono ?_;rintro e w' ⟨rfl,rfl⟩))
 go_end0
 exact⟨rfl,rfl⟩
end Sim.Lease
