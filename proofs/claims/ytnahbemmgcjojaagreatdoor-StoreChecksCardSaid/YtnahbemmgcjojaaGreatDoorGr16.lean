import Derived.Test.YtnahbemmgcjojaaGreatDoorGr05
import Derived.Test.YtnahbemmgcjojaaGreatDoorKA0
namespace Lim
open Go Go.Proofs
noncomputable section
set_option maxRecDepth 100000
section
variable {ρ:Ren} {st:St} {w:World}
theorem oi (h:WR ρ st w):ρ st.next=none:=by
 cases hh:ρ st.next with
 |none=>rfl
 |some x=>have:=h.fresh _ x hh;omega
theorem rA (h:WR ρ st w):ρ (st.next+1)=none:=by
 cases hh:ρ (st.next+1)with
 |none=>rfl
 |some x=>have:=h.fresh _ x hh;omega
theorem CY {x y:mc}:(St.new (St.new st x) y).mem.get st.next=some x/\(St.new (St.new st x) y).mem.get (st.next+1)=some y:=by
 refine⟨?_,aG _ _⟩;rw[aU _ _ _ (by show st.next<st.next+1;omega)];exact aG _ _
theorem CX (hw:WR ρ st w){sA sB:List CV}{tA tB:TypeId}{lA lB:List Value}(hA:∀ρ',cL ρ' sA lA)(hB:∀ρ',cL ρ' sB lB):
 ∃ρ',aY ρ st w ρ' (St.new (St.new st (.cells sA tA false)) (.cells sB tB false)) ((w.alloc (.cells lA.toArray tA)).alloc (.cells lB.toArray tB))/\ρ' st.next=some (w.heap.size,lA.length)/\ρ' (st.next+1)=some (w.heap.size+1,lB.length):=by
 have a1:=aY.BA hw (.cells sA tA false);have a2:=a1.trans (aY.BA a1.wr (.cells sB tB false));obtain⟨m1,m2⟩:=CY (st:=st) (x:= .cells sA tA false) (y:= .cells sB tB false);have ln:(St.new (St.new st (.cells sA tA false)) (.cells sB tB false)).next=st.next+2:=rfl;have a3:=aY.Cn a2 m1 (oi hw) (by omega) (hA ρ) (aga _);have a4:=aY.Cn a3 m2 (by rw[Ren.bX _ _ _ _ (by omega)];exact rA hw) (by omega) (hB _) (by omega);refine⟨_,a4, ?_, ?_⟩
 ·rw[Ren.bX _ _ _ _ (by omega),Ren.cE]
 ·rw[Ren.cE];simp
theorem CW (hw:WR ρ st w){sA sB:List CV}{tA tB:TypeId}{lA lB:List Value}(hA:∀ρ',cL ρ' sA lA)(hB:∀ρ',cL ρ' sB lB):
 ∃ρ',aY ρ st w ρ' (St.new (St.new st (.cells sA tA false)) (.cells sB tB false)) ((w.alloc (.cells lB.toArray tB)).alloc (.cells lA.toArray tA))/\ρ' st.next=some (w.heap.size+1,lA.length)/\ρ' (st.next+1)=some (w.heap.size,lB.length):=by
 have a1:=aY.BA hw (.cells sA tA false);have a2:=a1.trans (aY.BA a1.wr (.cells sB tB false));obtain⟨m1,m2⟩:=CY (st:=st) (x:= .cells sA tA false) (y:= .cells sB tB false);have ln:(St.new (St.new st (.cells sA tA false)) (.cells sB tB false)).next=st.next+2:=rfl;have a3:=aY.Cn a2 m2 (rA hw) (by omega) (hB ρ) (by omega);have a4:=aY.Cn a3 m1 (by rw[Ren.bX _ _ _ _ (by omega)];exact oi hw) (by omega) (hA _) (aga _);refine⟨_,a4, ?_, ?_⟩
 ·rw[Ren.cE];simp
 ·rw[Ren.bX _ _ _ _ (by omega),Ren.cE]
theorem cL.rep {v:CV}{v':Value}(h:∀ρ,VR ρ v v')(n:Nat)(ρ:Ren):cL ρ (List.replicate n v) (List.replicate n v'):=by
 induction n with
 |zero=>exact cL.nil _
 |succ n ih=>rw[agQ,agQ];exact cL.cons (h ρ) ih
end
theorem Ie:eV P0 118=true:=by kernel_rfl
theorem z6 {args:List CV}{st st':St}{v:CV}(h:LF args st=some (.ok v st')):pM P0 118 args st v st':=by
 left;unfold LF at h
 split at h
 ·rename_i s t
  split at h
  ·rename_i hh;cases h;refine⟨Ie,fun ρ w args' hw ha=> ?_⟩;obtain⟨x1,t1,e1,Tc,EN⟩:=ha.inv;obtain⟨x2,t2,e2,Tb,Ga⟩:=EN.inv;have e4:t2=[]:=by have:=Ga.len;simpa using this.symm
   subst e4;subst e2;have e5:args'= #[x1,x2]:=by rw[<-ahi (xs:=args'),e1]
   subst e5;cases Tc;cases Tb;refine(Cfg.new s t hh.1 hh.2 w).mono ?_;have eA:(List.replicate (3*s) (Value.int .i64 0)).toArray=Array.replicate (3*s) (.int .i64 0):=by simp
   have eB:(List.replicate t (Value.bool false)).toArray=Array.replicate t (.bool false):=by simp
   rintro e w' ⟨rfl,Hp⟩;obtain⟨M,hM⟩:∃M,M=St.new (St.new st (.cells (List.replicate (3*s) (.int .i64 0)) 67 false)) (.cells (List.replicate t (.bool false)) 4 false):=⟨_,rfl⟩;have hMn:M.next=st.next+2:=by rw[hM];rfl
   have fin:∀(ρ1:Ren) (w1:World) (r1 r2 z1 z2:Nat),aY ρ st w ρ1 M w1->ρ1 st.next=some (r1,z1)->ρ1 (st.next+1)=some (r2,z2)->w1.heap.size=w.heap.size+1+1->
    ∃v' ρ',Ending.returned (.tuple #[.pointer (some ⟨w.heap.size+1+1,0,none⟩), .int .i64 0])= .returned v'/\VR ρ' (.tuple [.ptr (st.next+2) 0, .int .i64 0]) v'/\
     aY ρ st w ρ' (Co s t st) (w1.alloc (.cells #[.slice (some ⟨r1,0,none⟩) s s, .slice (some ⟨r2,0,none⟩) t t] 115)).drew:=by
    intro ρ1 w1 r1 r2 z1 z2 HM q1 q2 hs;have hn:=oi HM.wr
    have hle:ρ1.le (ρ1.set M.next (w1.heap.size,2)):=fun q x hx=>by
     rw[Ren.bX _ _ _ _ (fun e=>by subst e;rw[hn]at hx;cases hx)];exact hx
    have hv:cL (ρ1.set M.next (w1.heap.size,2)) [.slice st.next 0 s s 0, .slice (st.next+1) 0 t t 0] [.slice (some ⟨r1,0,none⟩) s s, .slice (some ⟨r2,0,none⟩) t t]:=
     cL.cons (.slice _ _ _ _ _ _ (hle _ _ q1)) (cL.cons (.slice _ _ _ _ _ _ (hle _ _ q2)) (cL.nil _))
    have F9:=BR.cells (ρ:=ρ1.set M.next (w1.heap.size,2)) [.slice st.next 0 s s 0, .slice (st.next+1) 0 t t 0] 115 false #[.slice (some ⟨r1,0,none⟩) s s, .slice (some ⟨r2,0,none⟩) t t] 0 0 (aga 2) hv (by omega) (by intros;omega);have hN:=aY.new HM.wr (blk:= .cells [.slice st.next 0 s s 0, .slice (st.next+1) 0 t t 0] 115 false) (o:= .cells #[.slice (some ⟨r1,0,none⟩) s s, .slice (some ⟨r2,0,none⟩) t t] 115) (sz:=2) F9;have Ji:=HM.trans hN.1;have hA3:=Ji.trans (aY.draw Ji.wr ((w1.alloc (.cells #[.slice (some ⟨r1,0,none⟩) s s, .slice (some ⟨r2,0,none⟩) t t] 115)).drew).drawn);have eS:Co s t st=St.new M (.cells [.slice st.next 0 s s 0, .slice (st.next+1) 0 t t 0] 115 false):=by rw[hM];rfl
    rw[eS];refine⟨_,_,rfl, ?_,hA3⟩;rw[<-hs];refine VR.tuple' (cL.two (.ptr _ _ w1.heap.size 2 ?_) (.int _ _));rw[<-hMn];exact hN.2
   rcases Hp with rfl|rfl
   ·obtain⟨ρ1,HM,q1,q2⟩:=CX hw (tA:=67) (tB:=4) (fun ρ'=>cL.rep (fun ρ=> .int .i64 0) (3*s) ρ') (fun ρ'=>cL.rep (fun ρ=> .bool false) t ρ');rw[eA,eB,<-hM]at HM;exact fin ρ1 _ _ _ _ _ HM q1 q2 (by simp)
   ·obtain⟨ρ1,HM,q1,q2⟩:=CW hw (tA:=67) (tB:=4) (fun ρ'=>cL.rep (fun ρ=> .int .i64 0) (3*s) ρ') (fun ρ'=>cL.rep (fun ρ=> .bool false) t ρ');rw[eA,eB,<-hM]at HM;exact fin ρ1 _ _ _ _ _ HM q1 q2 (by simp)
  ·cases h
 ·cases h
