import Derived.Test.YtnahbemmgcjojaaGreatDoorKLease4d
namespace Sim.Lease
open Go Go.RowKit Go.Shelf Go.Proofs
set_option linter.unusedVariables false
attribute [local go_sem] Oper.semAt_some
structure L4 where
 k:ByteArray
 c:Int
 m:Int
 t:Int
def L4.v (x:L4):Value:=lv x.k x.c x.m x.t
inductive One (clock:Nat):Array MapEntry→Option L4→Prop
 |none:One clock #[] none
 |one (key:Value) (x:L4) (bn:Nat) (h:bn<clock):One clock #[⟨key,x.v,bn⟩] (some x)
def outL (now:Int):Option L4→List L4
 |none=>[]
 |some x=>if now<x.t then [x]else []
theorem outL_le (now:Int)(o:Option L4):(outL now o).length≤1:=by
 cases o with
 |none=>simp[outL]
 |some x=>simp only[outL];split<;>simp
def J2 (J:List L4→World→Prop)(x:L4):List Value→World→Prop
 |[]=>J []
 |_::_=>J [x]
theorem J2_abides {B:Nat}{J:List L4→World→Prop}(h:AbidesFrom B J)(x:L4):AbidesFrom B (J2 J x):=by
 intro s W W' row hs hg hr;cases s with
 |nil=>exact h [] W W' row hs hg hr
 |cons a l=>exact h [x] W W' row hs hg hr
theorem out_stops (n:Nat)(hn:1≤n)(B1 B2 b mb clock n₀:Nat)(now:Int)(es:Array MapEntry)(o:Option L4)(ho:One clock es o)(hmb:mb<n₀)(hb:b<n₀)
 (w:World) (hsz:n₀≤w.heap.size) (hB1:w.cell? ⟨B1,0,none⟩=some (.pointer (some ⟨b,0,none⟩))) (hB2:w.cell? ⟨B2,0,none⟩=some (.int .i64 now)) (hl1:B1<w.heap.size) (hl2:B2<w.heap.size)
 (hm:w.cell? ⟨b,4,none⟩=some (.map (some mb))) (hh:w.heap[mb]?=some (.map es clock)):
 SeqStopsK Fence.wide n Tryz.prog 112 #[.pointer (some ⟨B1,0,none⟩), .pointer (some ⟨B2,0,none⟩)] (fun x:L4=> #[x.v]) (Kq n₀) (fun ys=>ys=outL now o) (fun pre=>pre=outL now o) 1 w:=by
 intro l J Jx W hW hJ hJx hY h0;have c1:=(hW.cell (p:=⟨B1,0,none⟩) hl1).trans hB1;have c2:=(hW.cell (p:=⟨B2,0,none⟩) hl2).trans hB2;have c3:=(hW.cell (p:=⟨b,4,none⟩) (by show b<_;omega)).trans hm;have c4:=(hW.block mb (by omega)).trans hh;cases ho with
 |none=>
  refine(out1_zero n l B1 B2 b mb clock hn now (J2 J ⟨.empty,0,0,0⟩) W (J2_abides hJ _) c1 c2 c3 c4 h0).mono ?_;rintro e W' ⟨hv,hj⟩;exact⟨hv, .inl ⟨[],rfl,hj⟩⟩
 |one key x bn hlt=>
  by_cases hx:now<x.t
  ·refine(out1_yield n l B1 B2 b mb clock hn now key bn x.k x.c x.m x.t hlt hx n₀ hmb (J2 J x) (J2 Jx x) ?_ W (J2_abides hJ _) c1 c2 c3 c4 h0).mono ?_
   ·intro W1 hW1;exact hY [] x W1 hW1 (by simp)
   ·rintro e W' ⟨hv,hj⟩;refine⟨hv,hj.elim (fun h=> .inl ⟨[x], ?_,h⟩) (fun h=> .inr ⟨[x], ?_,h⟩)⟩<;>simp[outL,hx]
  ·refine(out1_skip n l B1 B2 b mb clock hn now key bn x.k x.c x.m x.t hlt hx (J2 J x) W (J2_abides hJ _) c1 c2 c3 c4 h0).mono ?_;rintro e W' ⟨hv,hj⟩;exact⟨hv, .inl ⟨[],by simp[outL,hx],hj⟩⟩
end Sim.Lease
