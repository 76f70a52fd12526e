import Derived.Test.YtnahbemmgcjojaaGreatDoorKLease4b
namespace Sim.Lease
open Go Go.RowKit Go.Shelf Go.Proofs
set_option linter.unusedVariables false
attribute [local go_sem] Oper.semAt_some
theorem next_one (W:World)(ty:TypeId)(r mb since c0:Nat)(e:MapEntry)(clock:Nat)(hr:W.heap[r]?=some (.mapIter (some mb) since #[] c0))(hb:W.heap[mb]?=some (.map #[e] clock))(ho:e.born<since):
 (Instr.next (.pointer (some ⟨r,0,none⟩)) false ty).run Tryz.prog W= .ok (.tuple #[.bool true,e.key,e.val]) (W.putObj r (.mapIter (some mb) since #[e.born] clock)):=by
 have h2:¬(since≤e.born):=by omega
 simp[Instr.next,getObj,setObj,Sem.run_bind,Sem.run,hr,hb,Result.andThen,choose,Question.forced,ho,h2,World.putObj,Array.isEmpty]
structure Kq (n₀:Nat)(W W':World):Prop where
 below:Below n₀ W W'
 walks:KeepsWalks W W'
theorem Kq.trans {n₀:Nat}{A B C:World}(h:Kq n₀ A B)(k:Kq n₀ B C):Kq n₀ A C:=⟨h.below.trans k.below,h.walks.trans k.walks⟩
theorem Kq.putObj {n₀:Nat}{w:World}(hn:n₀≤w.heap.size)(W:World)(l:Nat)(o o':Obj)(hl:w.heap.size≤l)(hW:W.heap[l]?=some o)(ho:o.isCells=false)(hk:o.isWalk=false):Kq n₀ W (W.putObj l o'):=
 ⟨belowK_b hn W l o o' hl hW ho hk,walksK_b W l o o' hl hW ho hk⟩
def lv (k:ByteArray)(c m t:Int):Value:= .agg #[.string k, .int .i64 c, .int .i64 m, .int .i64 t]
set_option maxRecDepth 100000 in
set_option maxHeartbeats 2000000 in
theorem out1_skip (n l B1 B2 b mb clock:Nat)(hn:1≤n)(now:Int)(key:Value)(bn:Nat)(k:ByteArray)(c m t:Int)(hbn:bn<clock)(hnow:¬now<t)(J:List Value→World→Prop)
 (W:World) (hJ:AbidesFrom W.heap.size J) (hB1:W.cell? ⟨B1,0,none⟩=some (.pointer (some ⟨b,0,none⟩))) (hB2:W.cell? ⟨B2,0,none⟩=some (.int .i64 now))
 (hm:W.cell? ⟨b,4,none⟩=some (.map (some mb))) (hh:W.heap[mb]?=some (.map #[⟨key,lv k c m t,bn⟩] clock)) (h0:J [] W):
 CallsIn Fence.wide n Tryz.prog 112 #[.func (.yield l) #[] #[], .pointer (some ⟨B1,0,none⟩), .pointer (some ⟨B2,0,none⟩)] W fun e W'=>(∃v,e= .returned v)∧J [] W':=by
 have hJ1:J [] (W.alloc (.mapIter (some mb) clock #[] clock)):=hJ [] W _ none h0 (World.grownBy_alloc _ _ _) (fun r e=>by cases e);have hr:=run_range_map (P:=Tryz.prog) W 216 _ _ mb _ clock Tryz.underlying216 hh;have hlt:mb<W.heap.size:=(Array.getElem?_eq_some_iff.1 hh).1;have hnx:=fun ty=>next_one (W.alloc (.mapIter (some mb) clock #[] clock)) ty W.heap.size mb clock clock ⟨key,lv k c m t,bn⟩ clock (hp_new W _) ((hp_old W _ mb hlt).trans hh) hbn;obtain⟨W1,hW1⟩:∃W1,(W.alloc (.mapIter (some mb) clock #[] clock)).putObj W.heap.size (.mapIter (some mb) clock #[bn] clock)=W1:=⟨_,rfl⟩;have hs1:W1.heap.size=W.heap.size+1:=by rw[←hW1];simp[World.putObj]
 have hlow:∀k,k<W.heap.size→W1.heap[k]?=W.heap[k]?:=fun k hk=>by
  rw[←hW1,World.putObj_heap_other (by omega),hp_old W _ k hk]
 have hat:W1.heap[W.heap.size]?=some (.mapIter (some mb) clock #[bn] clock):=by rw[←hW1,World.putObj_heap_same (by simp)]
 have hJ2:J [] W1:=by
  rw[←hW1];exact hJ [] _ _ (some W.heap.size) hJ1 (grownBy_putObj' _ _ _) (fun r e=>by cases e;exact⟨Nat.le_refl _,_,hp_new W _,rfl⟩)
 have hJ3:J [] ((W1.alloc (.cells #[.string k, .int .i64 c, .int .i64 m, .int .i64 t] 174))):=hJ [] _ _ none hJ2 (World.grownBy_alloc _ _ _) (fun r e=>by cases e);have hen:=run_entry_at (P:=Tryz.prog) W1 W.heap.size mb clock #[] #[⟨key,lv k c m t,bn⟩] clock ⟨key,lv k c m t,bn⟩ hat ((hlow mb hlt).trans hh) (by simp) (by simp);have hlB2:=(show B2<W.heap.size from Decidable.byContradiction fun h=>by simp[World.cell?,Array.getElem?_eq_none (Nat.le_of_not_lt h)]at hB2);have hB2':W1.cell? ⟨B2,0,none⟩=some (.int .i64 now):=by simp only[World.cell?,hlow B2 hlB2]at hB2⊢;exact hB2
 have hsz2:W.heap.size<W1.heap.size:=by omega
 have hnx2:=fun ty=>next_none (W1.alloc (.cells #[.string k, .int .i64 c, .int .i64 m, .int .i64 t] 174)) ty W.heap.size mb clock clock #[bn] #[⟨key,lv k c m t,bn⟩] clock ((hp_old W1 _ _ hsz2).trans hat) ((hp_old W1 _ mb (by omega)).trans ((hlow mb hlt).trans hh)) (by simp;exact hbn) (Nat.le_refl _) (by simp[leftOf]);rw[hW1]at hnx;simp only[lv]at hen hnx;refine callsIn_of_wp Tryz.func112 rfl trivial ?_ rfl;simp only[Tryz.ntmps112,List.size_toArray,List.length_cons,List.length_nil,Nat.reduceAdd,Nat.reduceSub,Array.replicate_succ,Array.replicate_zero,List.push_toArray,List.append_toArray,List.nil_append,List.cons_append]
 gi_wp2
 refine wpIn_loop_rounds 2 ?_;rw[roundsIn_succ]
 gi_wp2
 refine⟨fun _ h=>(by cases h), ?_⟩
 gi_wp2
 rw[roundsIn_succ]
 gi_wp2
 go_end0
 exact⟨⟨_,rfl⟩,hJ3⟩
end Sim.Lease
