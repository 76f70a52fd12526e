import Derived.Test.YtnahbemmgcjojaaGreatDoorKLease4
namespace Sim.Lease
open Go Go.RowKit Go.Shelf Go.Proofs
set_option linter.unusedVariables false
attribute [local go_sem] Oper.semAt_some
theorem next_none (W:World)(ty:TypeId)(r mb since c0:Nat)(seen:Array Nat)(es:Array MapEntry)(clock:Nat)(hr:W.heap[r]?=some (.mapIter (some mb) since seen c0))(hb:W.heap[mb]?=some (.map es clock))(hold:∀x∈es.toList,x.born<since)(hsc:since≤c0)
 (hl:(leftOf es seen).size=0):(Instr.next (.pointer (some ⟨r,0,none⟩)) false ty).run Tryz.prog W= .ok (.tuple #[.bool false]) W:=by
 rcases run_next_at (P:=Tryz.prog) W ty r mb since c0 seen es clock hr hb hold hsc with⟨_,h⟩|⟨e,he,_⟩
 ·exact h
 ·have:(leftOf es seen).toList.length=0:=by simpa using hl
  rw[List.eq_nil_of_length_eq_zero this]at he;cases he
set_option maxRecDepth 100000 in
set_option maxHeartbeats 2000000 in
theorem out1_zero (n l B1 B2 b mb clock:Nat)(hn:1≤n)(now:Int)(J:List Value→World→Prop)
 (W:World) (hJ:AbidesFrom W.heap.size J) (hB1:W.cell? ⟨B1,0,none⟩=some (.pointer (some ⟨b,0,none⟩))) (hB2:W.cell? ⟨B2,0,none⟩=some (.int .i64 now))
 (hm:W.cell? ⟨b,4,none⟩=some (.map (some mb))) (hh:W.heap[mb]?=some (.map #[] clock)) (h0:J [] W):
 CallsIn Fence.wide n Tryz.prog 112 #[.func (.yield l) #[] #[], .pointer (some ⟨B1,0,none⟩), .pointer (some ⟨B2,0,none⟩)] W fun e W'=>(∃v,e= .returned v)∧J [] W':=by
 have hJ1:J [] (W.alloc (.mapIter (some mb) clock #[] clock)):=hJ [] W _ none h0 (World.grownBy_alloc _ _ _) (fun r e=>by cases e);have hr:=run_range_map (P:=Tryz.prog) W 216 _ _ mb #[] clock Tryz.underlying216 hh;have hlt:mb<W.heap.size:=(Array.getElem?_eq_some_iff.1 hh).1;have hnx:=fun ty=>next_none (W.alloc (.mapIter (some mb) clock #[] clock)) ty W.heap.size mb clock clock #[] #[] clock (hp_new W _) ((hp_old W _ mb hlt).trans hh) (by simp) (Nat.le_refl _) rfl;refine callsIn_of_wp Tryz.func112 rfl trivial ?_ rfl;simp only[Tryz.ntmps112,List.size_toArray,List.length_cons,List.length_nil,Nat.reduceAdd,Nat.reduceSub,Array.replicate_succ,Array.replicate_zero,List.push_toArray,List.append_toArray,List.nil_append,List.cons_append]
 gi_wp2
 refine wpIn_loop_rounds 1 ?_;rw[roundsIn_succ]
 gi_wp2
 go_end0
 exact⟨⟨_,rfl⟩,hJ1⟩
end Sim.Lease
