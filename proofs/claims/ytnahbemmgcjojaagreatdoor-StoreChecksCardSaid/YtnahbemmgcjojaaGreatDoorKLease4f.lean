import Derived.Test.YtnahbemmgcjojaaGreatDoorKLease4e
import Derived.Lib.Hide
namespace Sim.Lease
open Go Go.RowKit Go.Shelf Go.Proofs
set_option linter.unusedVariables false
attribute [local go_sem] Oper.semAt_some
theorem info201:(Tryz.prog.info? 174).map (fun i=>(i.zero,i.size,i.bytes))=some (some (.agg #[.string .empty, .int .i64 0, .int .i64 0, .int .i64 0]),4,40):=by kernel_rfl
theorem info_parts {P:Program}{t:TypeId}{z:Option Value}{s b:Nat}(h:(P.info? t).map (fun i=>(i.zero,i.size,i.bytes))=some (z,s,b)):∃i,P.info? t=some i∧i.zero=z∧i.size=s∧i.bytes=b:=by
 cases hi:P.info? t with
 |none=>simp[hi]at h
 |some i=>simp[hi]at h;exact⟨i,rfl,h.1,h.2.1,h.2.2⟩
def L4.cs (x:L4):List Value:=[.string x.k, .int .i64 x.c, .int .i64 x.m, .int .i64 x.t]
def lcells (l:List L4):List Value:=l.flatMap L4.cs
theorem cell_four_new (w:World)(x0 x1 x2 x3:Value)(t:TypeId):∀j u,[x0,x1,x2,x3][j]?=some u→(w.alloc (.cells #[x0,x1,x2,x3] t)).cell? ((⟨w.heap.size,0,none⟩:Addr).add j)=some u:=by
 intro j u hj;have e:((⟨w.heap.size,0,none⟩:Addr).add j)=⟨w.heap.size,j,none⟩:=by unfold Addr.add;split<;>simp_all
 rw[e,World.cell?_alloc_at _ _ _ _ rfl]
 match j,hj with
 |0,hj=>exact hj
 |1,hj=>exact hj
 |2,hj=>exact hj
 |3,hj=>exact hj
def Boxed4 (W:World)(B:Nat)(x:L4):Prop:=W.heap[B]?=some (.cells #[.string x.k, .int .i64 x.c, .int .i64 x.m, .int .i64 x.t] 174 (0,0))
theorem Boxed4.cell {W:World}{B:Nat}{x:L4}(h:Boxed4 W B x)(j:Nat)(hj:j<4):W.cell? ⟨B,j,none⟩=x.cs[j]?:=by
 simp only[World.cell?,show W.heap[B]?=_ from h]
 match j,hj with
 |0,_=>rfl
 |1,_=>rfl
 |2,_=>rfl
 |3,_=>rfl
theorem boxed4_own (B:Nat)(x:L4):Own (fun (_:Unit) W=>Boxed4 W B x):=fun s X Y row hs hg hrow=>
 (grownBy_keeps_cells hg hrow hs rfl).trans hs
end Sim.Lease
