import Derived.Test.YtnahbemmgcjojaaGreatDoorGr03
import Derived.Orders
namespace Lim
open Go
noncomputable section
def uW (o:Oper)(p:Nat):Bool:=match o.dst with|some d=>Pt (d) p|none=>false
def AF (ops:Array Oper)(i:Nat)(x:df):Bool:=
 match x with| .const _=>true| .tmp p=>uc (BV ops.toList 0) fun jo=>bk (uW jo.2 p) (bk (Nat.ble (Nat.succ jo.1) i) (dO ops ops.size i jo.1) (Bool.and (Nat.ble (Nat.succ i) jo.1) (dO ops ops.size jo.1 i))) true
def zy (P:Program)(ops:Array Oper)(i:Nat)(o:Oper)(j:Nat)(oj:Oper):Bool:=
 bk (Nat.ble (Nat.succ j) i) (Bool.and (match oj.dst with|some d=>Bool.not (uW o (d))|none=>true) (bk (Bool.and (jd P o) (jd P oj)) (dO ops ops.size i j) true)) true
def Dd (P:Program)(ops:Array Oper):Bool:=
 uc (BV ops.toList 0) fun io=>
  Bool.and (uc io.2.after.toList fun e=>bk (Region.binds .any e) (Nat.ble (Nat.succ e.on) io.1) true)
  (Bool.and (uc (lM P ops io.2) fun x=>AF ops io.1 x) (uc (BV ops.toList 0) fun jo=>zy P ops io.1 io.2 jo.1 jo.2))
section
variable {P:Program} {call:dY} {n:Nat} {ops:Array Oper}
structure u6 (P:Program)(ops:Array Oper):Prop where
 s1:∀i o,ops.toList[i]?=some o->∀e∈o.after,Region.binds .any e=true->e.on<i
 s2:∀i o,ops.toList[i]?=some o->∀p,df.tmp p∈lM P ops o->∀j oj d,ops.toList[j]?=some oj->oj.dst=some d->d=p->(j<i/\dO ops ops.size i j=true)\/(i<j/\dO ops ops.size j i=true)
 s3:Bi ops.toList
 s4:∀i j o oj,ops.toList[i]?=some o->ops.toList[j]?=some oj->j<i->jd P o=true->jd P oj=true->dO ops ops.size i j=true
theorem zh (h:Dd P ops=true):u6 P ops:=by
 unfold Dd at h;rw[jQ]at h;have key:∀i o,ops.toList[i]?=some o->_:=fun i o ho=>h (i,o) (by have:=pn (i:=0) ho;simpa using this);refine⟨fun i o ho e he hb=> ?_,fun i o ho p hp j oj d hj hd hpe=> ?_,fun j i oj o d qI hj ho hd B9=> ?_,fun i j o oj ho hj qI hw hwj=> ?_⟩
 ·have:=key i o ho;simp only[agp,jQ]at this;have:=this.1 e (by simpa using he);rw[hb]at this
  simpa[ahY]using this
 ·have:=key i o ho;simp only[agp,jQ]at this;have:=this.2.1 _ hp;unfold AF at this;dsimp only at this;rw[jQ]at this;have:=this (j,oj) (by have:=pn (i:=0) hj;simpa using this);have Mv:uW oj p=true:=by unfold uW;rw[hd];exact yB.2 hpe
  simp only[Mv,aO,ags,agw,ahY]at this
  split at this
  ·rename_i hlt;exact .inl ⟨hlt,this⟩
  ·simp only[agp,agw,ahY]at this;exact .inr this
 ·have:=key i o ho;simp only[agp,jQ]at this;have:=this.2.2 (j,oj) (by have:=pn (i:=0) hj;simpa using this);unfold zy at this;simp only[aO,agw,ahY,agl qI,agp]at this;have:=this.1;rw[hd]at this;have Mv:uW o (d)=true:=by unfold uW;rw[B9];exact yB.2 rfl
  simp[Mv]at this
 ·have:=key i o ho;simp only[agp,jQ]at this;have:=this.2.2 (j,oj) (by have:=pn (i:=0) hj;simpa using this);unfold zy at this;simp only[aO,agw,ahY,agl qI,agp]at this;have:=this.2
  simpa[hw,hwj]using this
def LY (P:Program)(call:dY)(ops:Array Oper)(chain:List St)(dg:List TR):Prop:=∀(i:Nat) (t:TR),dg[i]?=some t->jd P t.o=false->kO P t.o=false->∀(c:Nat) (s:St),chain[c]?=some s->
    (∃u∈dg,u.w=true/\u.c<c/\dO ops ops.size u.i t.i=true)\/(∃u∈dg,u.w=true/\c<=u.c/\dO ops ops.size t.i u.i=true)\/∃s1,eQ P call ops t.ab t.o t.fr s= .ok t.v s1
def FI (P:Program)(ops:Array Oper)(as:List (Option Nat))(chain:List St)(dg:List TR):Prop:=∀(j:Nat) (tj:TR) (b:Nat),dg[j]?=some tj->kO P tj.o=true->as[j]?=some (some b)->∀(d:Nat) (td:TR),dg[d]?=some td->jd P td.o=true->
    dO ops ops.size d j=false->dO ops ops.size j d=false->(d<j->∀s,chain[td.c]?=some s->s.mem.get b=none)/\(j<d->∀s s',chain[td.c]?=some s->chain[td.c+1]?=some s'->s'.mem.get b=s.mem.get b)
theorem Ab (kQ:u6 P ops):∀(f i j:Nat),dO ops f i j=true->j<i:=by
 intro f
 induction f with
 |zero=>intro i j h;cases h
 |succ f ih=>
  intro i j h
  have e:dO ops (f+1) i j=(match ops[i]? with
   |none=>false
   |some o=>wJ o.after.toList fun e=>Bool.and (Region.binds .any e) (j9 e.on fun k=>Bool.or (Nat.beq k j) (dO ops f k j))):=rfl
  rw[e]at h
  split at h
  ·cases h
  ·rename_i o ho;rw[sU]at h;obtain⟨x,hx,h⟩:=h;simp only[dj,agp,agU,agA]at h;have:=kQ.s1 i o (by simpa using ho) x (by simpa using hx) h.1;rcases h.2 with h2|h2
   ·omega
   ·have:=ih _ _ h2;omega
open Classical in
theorem rh (s:St)(f:Nat->Option mc):∀names:List Nat,∃M:St,M.next=s.next/\∀q,M.mem.get q=if q∈names then f q else s.mem.get q:=by
 intro names
 induction names with
 |nil=>exact⟨s,rfl,fun q=>by simp⟩
 |cons b names ih=>
  obtain⟨M,h1,h2⟩:=ih;refine⟨⟨M.mem.put b (f b),M.next⟩,h1,fun q=> ?_⟩;show(M.mem.put b (f b)).get q=_;rw[PT.np,h2]
  by_cases e:q=b
  ·subst e;simp
  ·simp[e]
def MU (N:Nat)(aX:Array Bool):Nat:=(List.range N).countP fun i=> !aX.getD i true
theorem Ak {N:Nat}{aX:Array Bool}{i:Nat}(hi:i<N)(hs:aX.size=N)(hu:aX.getD i true=false):MU N (aX.setIfInBounds i true)<MU N aX:=by
 unfold MU
 have key:∀(l:List Nat),i∈l->l.Nodup->l.countP (fun k=> !(aX.setIfInBounds i true).getD k true)<l.countP (fun k=> !aX.getD k true):=by
  have same:∀k,k≠i->(aX.setIfInBounds i true).getD k true=aX.getD k true:=fun k hk=>by simp[agY (agZ hk)]
  have V8:(aX.setIfInBounds i true).getD i true=true:=by simp[hs,hi]
  intro l
  induction l with
  |nil=>intro h;simp at h
  |cons k l ih=>
   intro h hn;rw[agF]at hn;rw[List.countP_cons,List.countP_cons]
   by_cases hk:k=i
   ·subst hk
    have:l.countP (fun k'=> !(aX.setIfInBounds k true).getD k' true)=l.countP (fun k'=> !aX.getD k' true):=by
     apply List.countP_congr;intro x hx;rw[same x (fun e=>hn.1 (e▸hx))]
    rw[this,V8,hu];simp
   ·have hl:i∈l:=by simpa[agZ hk]using h
    have:=ih hl hn.2;rw[same k hk];omega
 exact key _ (by simpa using hi) List.nodup_range
theorem iq {aX:Array Bool}{i j:Nat}(hi:i<aX.size):la (aX.setIfInBounds i true) j↔j=i\/la aX j:=by
 unfold la
 by_cases h:j=i
 ·subst h;simp[hi]
 ·simp[agY (agZ h),h]
theorem nh {aX:Array Bool}{i:Nat}(hs:aX.size=ops.size):i∈Region.ready .any ops aX↔i<ops.size/\¬la aX i/\Im ops aX i:=by
 unfold Region.ready;rw[List.mem_filter,List.mem_range];constructor
 ·rintro⟨h1,h2⟩;simp only[agp,aib]at h2;refine⟨h1, ?_, ?_⟩
  ·unfold la;have:aX.getD i false=aX.getD i true:=by simp[hs,h1]
   rw[this,h2.1];simp
  ·intro o ho e he hb;have:=h2.2;rw[ho]at this;simp only[ahe,ahF,Array.all_eq_true_iff_forall_mem]at this;have:=this e he;rw[hb]at this
   simpa[la]using this
 ·rintro⟨h1,h2,h3⟩;refine⟨h1, ?_⟩;simp only[agp,aib];constructor
  ·unfold la at h2;have:aX.getD i false=aX.getD i true:=by simp[hs,h1]
   rw[this]at h2;simpa using h2
  ·have ho:ops[i]?=some ops[i]:=by simp
   rw[ho];simp only[ahe,ahF,Array.all_eq_true_iff_forall_mem];intro e he;cases hb:Region.binds .any e with
   |false=>rfl
   |true=>have:=h3 _ ho e he hb;simpa[la]using this
theorem sW (kQ:u6 P ops){aX:Array Bool}(hs:aX.size=ops.size)(h:Region.ready .any ops aX=[]):∀i,i<ops.size->la aX i:=by
 intro i
 induction i using Nat.strongRecOn with
 |_ i ih=>
  intro hi
  by_cases hl:la aX i
  ·exact hl
  ·have:=(nh hs).2 ⟨hi,hl,fun o ho e he hb=>by
    have:=kQ.s1 i o (by simpa using ho) e he hb;exact ih _ this (by omega)⟩
   rw[h]at this;simp at this
structure Cv (P:Program)(ops:Array Oper)(as:List (Option Nat))(dg:List TR)(aX:Array Bool)(c:Nat)(ρ:Ren)(s M:St):Prop where
 next:M.next=s.next
 late:∀(j:Nat) (t:TR) (b:Nat) (x:Nat×Nat),la aX j->dg[j]?=some t->kO P t.o=true->as[j]?=some (some b)->ρ b=some x->t.s.mem.get b=none/\(c<fc P ops.toList j->M.mem.get b=t.s1.mem.get b/\s.mem.get b=none)
 wQ:∀(q:Nat) (x:Nat×Nat),ρ q=some x->(∀(j:Nat) (t:TR),as[j]?=some (some q)->dg[j]?=some t->kO P t.o=true->¬c<fc P ops.toList j)->M.mem.get q=s.mem.get q
structure Inv (P:Program)(ops:Array Oper)(as:List (Option Nat))(dg:List TR)(ch:List St)(iE:St)(n:Nat)(ρ0:Ren)(wP mw:St)(sE:Fr)(w0:World)(aX:Array Bool)(a:Act)(w:World):Prop where
 size:aX.size=ops.size
 closed:∀i,la aX i->Im ops aX i
 inner:∀i,la aX i->i<ops.size
 data:∃fr c ρ s M,LX ops.toList dg (la aX) sE fr/\(∀j o,ops.toList[j]?=some o->jd P o=true->(la aX j↔fc P ops.toList j<c))/\c<=ch.length/\(ch++[iE])[c]?=some s/\FR ρ fr a.tmps/\aY ρ0 wP w0 ρ M w/\mw.next<=s.next/\(∀j b,¬la aX j->as[j]?=some (some b)->ρ b=none)/\Cv P ops as dg aX c ρ s M
 sz:n<=a.tmps.size
 defers:a.defers=[]
variable {as:List (Option Nat)} {dg:List TR} {ch:List St} {ρ0:Ren} {wP mw iE:St} {sE ym:Fr} {w0:World}
theorem Jz {α β:Type}{l:List α}{as:List β}(h:as.length=l.length){j:Nat}{o:α}(hj:l[j]?=some o):∃ab,(l.zip as)[j]?=some (o,ab)/\as[j]?=some ab:=by
 have hlt:=(agt.1 hj).1;refine⟨as[j]'(by omega), ?_,by simp[h,hlt]⟩;rw[List.getElem?_zip_eq_some];exact⟨hj,by simp[h,hlt]⟩
section
variable (cq:nU P ops.toList wP as mw) (gF:yG (ops.toList.zip as) P call n ops 0 0 sE mw dg ch ym iE)
include cq gF
theorem jm {j:Nat}{o:Oper}(ho:ops.toList[j]?=some o):∃t ab,dg[j]?=some t/\as[j]?=some ab/\t.i=j/\t.ab=ab/\t.o=o/\t.w=jd P o/\t.c=fc P ops.toList j/\(∀d,o.dst=some d->d<n)/\LX ops.toList dg (·<j) sE t.fr/\
 eQ P call ops ab o t.fr t.s= .ok t.v t.s1/\(jd P o=true->(ch++[iE])[fc P ops.toList j]?=some t.s):=by
 obtain⟨ab,hz,tW⟩:=Jz cq.len ho;have wo:(ops.toList.zip as).map (·.1)=ops.toList:=List.map_fst_zip (by rw[cq.len];exact aga _);obtain⟨t,t1,t2,t3,t4,t5,t6,t7,t8,t9,t10⟩:=gF.ji j o ab hz;rw[wo]at t6 t8 t10;refine⟨t,ab,t1,tW,by omega,t3,t4,t5,by omega,t7,t8,t9,fun h=> ?_⟩;have:=t10 h;rw[ahg (agt.1 this).1];exact this
theorem qt {j:Nat}{t:TR}(ht:dg[j]?=some t):ops.toList[j]?=some t.o:=by
 have NN:(ops.toList.zip as).length=ops.toList.length:=by rw[List.length_zip,cq.len];simp
 have hj:j<ops.toList.length:=by rw[<-NN,<-gF.len];exact(agt.1 ht).1
 obtain⟨t',ab,h1,_,_,_,h2,_⟩:=jm cq gF (agh hj);rw[ht]at h1;cases h1;rw[h2,agh hj]
theorem vg:dg.length=ops.toList.length:=by rw[gF.len,List.length_zip,cq.len];simp
theorem sL:ch.length=fc P ops.toList ops.toList.length:=by
 have wo:(ops.toList.zip as).map (·.1)=ops.toList:=List.map_fst_zip (by rw[cq.len];exact aga _);have NN:(ops.toList.zip as).length=ops.toList.length:=by rw[List.length_zip,cq.len];simp
 have:=gF.Yz;rw[wo,NN]at this;exact this
theorem Pn {k:Nat}:∀{k':Nat},k<=k'->k'<=ops.toList.length->(∀j o,k<=j->j<k'->ops.toList[j]?=some o->jd P o=false)->
 (ia dg iE k').next=(ia dg iE k).next/\∀q,(∀j t,k<=j->j<k'->dg[j]?=some t->kO P t.o=true->as[j]?≠some (some q))->(ia dg iE k').mem.get q=(ia dg iE k).mem.get q:=by
 intro k'
 induction k' with
 |zero=>intro h _ _;have:k=0:=by omega
        subst this;exact⟨rfl,fun _ _=>rfl⟩
 |succ k' ih=>
  intro h hl hw
  by_cases hk:k=k'+1
  ·subst hk;exact⟨rfl,fun _ _=>rfl⟩
  obtain⟨i1,i2⟩:=ih (by omega) (by omega) (fun j o h1 h2=>hw j o h1 (by omega));have ho:ops.toList[k']?=some ops.toList[k']:=agh (by omega);generalize ops.toList[k']=o at ho;obtain⟨t,ab,h1,h2,h3,h4,h5,h6,h7,h8,h9,HN,QB⟩:=jm cq gF ho;have hnx:=gF.Md k' t h1;have Eo:ia dg iE k'=t.s:=by unfold ia;rw[h1]
  rw[<-hnx,<-i1,Eo];have hnw:=hw k' o (by omega) (by omega) ho;cases hb:kO P o with
  |false=>
   have:=mr hnw hb HN;rw[this];exact⟨rfl,fun q hq=>by rw[<-i2 q fun j t g1 g2=>hq j t g1 (by omega),Eo]⟩
  |true=>
   obtain⟨x,hx⟩:=sf hb;obtain⟨b,Jb⟩:=cq.news k' o ho (.inr hb);rw[h2]at Jb;cases Jb;rcases oO hx HN with⟨_,_,e⟩|⟨_,s,_,_,_,e⟩
   ·rw[e];exact⟨rfl,fun q hq=>by rw[<-i2 q fun j t g1 g2=>hq j t g1 (by omega),Eo]⟩
   ·rw[e];refine⟨rfl,fun q hq=> ?_⟩;have iJ:q≠b:=fun e=>hq k' t (by omega) (by omega) h1 (by rw[h5];exact hb) (by rw[h2,e]);show(t.s.mem.put b _).get q=_;rw[PT.dh _ _ _ _ iJ,<-i2 q fun j t g1 g2=>hq j t g1 (by omega),Eo]
theorem pe:∀(m k:Nat),k+m=ops.toList.length->∃k2,k<=k2/\k2<=ops.toList.length/\(∀j o,k<=j->j<k2->ops.toList[j]?=some o->jd P o=false)/\fc P ops.toList k2=fc P ops.toList k/\(ch++[iE])[fc P ops.toList k]?=some (ia dg iE k2)/\
 (k2=ops.toList.length\/∃o,ops.toList[k2]?=some o/\jd P o=true):=by
 intro m
 induction m with
 |zero=>
  intro k hk;have:k=ops.toList.length:=by omega
  refine⟨k,aga _,by omega,fun j o h1 h2=>by omega,rfl, ?_, .inl this⟩;rw[this,<-sL cq gF];have:ia dg iE ops.toList.length=iE:=by unfold ia;rw[agL (by rw[vg cq gF];exact aga _)]
  rw[this];simp
 |succ m ih=>
  intro k hk;have ho:ops.toList[k]?=some ops.toList[k]:=agh (by omega);generalize ops.toList[k]=o at ho;cases hw:jd P o with
  |true=>
   obtain⟨t,ab,h1,h2,h3,h4,h5,h6,h7,h8,h9,HN,QB⟩:=jm cq gF ho;refine⟨k,aga _,by omega,fun j o h1 h2=>by omega,rfl, ?_, .inr ⟨o,ho,hw⟩⟩;rw[QB hw];unfold ia;rw[h1]
  |false=>
   have hc:=jO (P:=P) ho;rw[hw]at hc;simp only[afY,agn,ahC]at hc;obtain⟨k2,g1,g2,g3,g4,g5,g6⟩:=ih (k+1) (by omega);refine⟨k2,by omega,g2,fun j o' j1 j2 hj=> ?_,by rw[g4,hc],by rw[<-hc];exact g5,g6⟩
   by_cases e:j=k
   ·subst e;rw[ho]at hj;cases hj;exact hw
   ·exact g3 j o' (by omega) j2 hj
theorem sc {j:Nat}{t:TR}{b:Nat}(ht:dg[j]?=some t)(hb:kO P t.o=true)(ha:as[j]?=some (some b)):∃s,(ch++[iE])[fc P ops.toList j]?=some s/\s.mem.get b=t.s1.mem.get b:=by
 have ho:=qt cq gF ht;have XQ:=(agt.1 ho).1;have hc:=jO (P:=P) ho;rw[wg hb]at hc;simp only[afY,agn,ahC]at hc;obtain⟨k2,g1,g2,g3,g4,g5,g6⟩:=pe cq gF (ops.toList.length-(j+1)) (j+1) (by omega);rw[hc]at g5;refine⟨_,g5, ?_⟩;rw[(Pn cq gF g1 g2 g3).2 b fun j' t' h1 h2 h3 h4 h5=>by have:=cq.uniq j j' b ha h5;omega,<-gF.Md j t ht]
end
theorem Inv.done (cq:nU P ops.toList wP as mw)(gF:yG (ops.toList.zip as) P call n ops 0 0 sE mw dg ch ym iE){aX:Array Bool}{a:Act}{w:World}(h:Inv P ops as dg ch iE n ρ0 wP mw sE w0 aX a w)(oy:∀i,i<ops.size->la aX i):
 kW ρ0 wP w0 n (.norm ym iE) .normal a w:=by
 obtain⟨fr,c,ρ,s,M,h1,h2,h3,h4,h5,h6,h7,h8,h9⟩:=h.data;have wo:(ops.toList.zip as).map (·.1)=ops.toList:=List.map_fst_zip (by rw[cq.len];exact aga _);have NN:(ops.toList.zip as).length=ops.toList.length:=by rw[List.length_zip,cq.len];simp
 have hc:c=ch.length:=by
  by_cases hlt:c<ch.length
  ·rw[sL cq gF]at hlt;obtain⟨j,o,g1,g2,g3,g4⟩:=pD (P:=P) (l:=ops.toList) ops.toList.length (aga _) c hlt;have:=(h2 j o g2 g3).1 (oy j (by simpa using g1));omega
  ·omega
 subst hc
 have hs:s=iE:=by
  rw[agN (aga _)]at h4;simp at h4;exact h4.symm
 subst hs
 have hA:=h6.rD (fun q x hx=>(h9.wQ q x hx fun j t _ ht hb hlt=>by
  have ho:=qt cq gF ht;have XQ:=(agt.1 ho).1;have:=iZ (P:=P) (l:=ops.toList) (Nat.le_of_lt XQ);have:=sL cq gF;omega).symm) h9.next.symm
 refine⟨rfl,ρ,⟨fun t=> ?_,h.sz,h.defers,hA⟩⟩
 have:dL ym (t)=dL fr (t):=by
  have zT:=gF.fin;rw[wo]at zT
  by_cases hd:∃(j:Nat) (o:Oper) (d:Tmp),ops.toList[j]?=some o/\o.dst=some d/\d=t
  ·obtain⟨j,o,d,g1,g2,rfl⟩:=hd;have hj:=(agt.1 g1).1;obtain⟨t',_,g3,_⟩:=jm cq gF g1;rw[zT.1 j o d t' (by show j<_;rw[NN];exact hj) g1 g2 g3,h1.1 j o d t' (oy j (by simpa using hj)) g1 g2 g3]
  ·rw[zT.2,h1.2]
   ·exact fun j o d _ g1 g2 e=>hd ⟨j,o,d,g1,g2,e⟩
   ·exact fun j o d _ g1 g2 e=>hd ⟨j,o,d,g1,g2,e⟩
 rw[this];exact h5 t
theorem Cv.sub {aX:Array Bool}{c:Nat}{ρ:Ren}{s M:St}(h:Cv P ops as dg aX c ρ s M)(hp:∀j b,¬la aX j->as[j]?=some (some b)->ρ b=none):∀q x,ρ q=some x->s.mem.get q=M.mem.get q\/s.mem.get q=none:=by
 intro q x hx
 by_cases hh:∃(j:Nat) (t:TR),as[j]?=some (some q)/\dg[j]?=some t/\kO P t.o=true/\c<fc P ops.toList j
 ·obtain⟨j,t,g1,g2,g3,g4⟩:=hh
  by_cases hl:la aX j
  ·exact .inr ((h.late j t q x hl g2 g3 g1 hx).2 g4).2
  ·rw[hp j q hl g1]at hx;cases hx
 ·exact .inl (h.wQ q x hx fun j t g1 g2 g3 g4=>hh ⟨j,t,g1,g2,g3,g4⟩).symm
def jk (P:Program)(ops:Array Oper)(as:List (Option Nat))(dg:List TR)(aX:Array Bool)(c:Nat)(ρ:Ren)(q:Nat):Prop:=∃(j:Nat) (t:TR) (x:Nat×Nat),la aX j/\dg[j]?=some t/\kO P t.o=true/\as[j]?=some (some q)/\c<fc P ops.toList j/\ρ q=some x
open Classical in
theorem Cv.step {aX:Array Bool}{c:Nat}{ρ ρ':Ren}{s s1 M:St}{w w':World}(h:Cv P ops as dg aX c ρ s M)(hp:∀j b,¬la aX j->as[j]?=some (some b)->ρ b=none)(h6:aY ρ0 wP w0 ρ M w)(hA:aY ρ s w ρ' s1 w')
 (_:∀q,jk P ops as dg aX c ρ q->s1.mem.get q=none):∃M1,aY ρ0 wP w0 ρ' M1 w'/\M1.next=s1.next/\∀q,M1.mem.get q=if jk P ops as dg aX c ρ q then M.mem.get q else s1.mem.get q:=by
 obtain⟨M1,g1,g2⟩:=rh s1 (fun q=>if jk P ops as dg aX c ρ q then M.mem.get q else s1.mem.get q) (as.filterMap id)
 have g3:∀q,M1.mem.get q=if jk P ops as dg aX c ρ q then M.mem.get q else s1.mem.get q:=by
  intro q;rw[g2]
  by_cases hq:q∈as.filterMap id
  ·rw[agl hq]
  ·rw[agf hq,agf];rintro⟨j,t,x,_,_,_,k1,_⟩;refine hq (List.mem_filterMap.2 ⟨some q,agK k1,rfl⟩)
 refine⟨M1,h6.trans (aY.frame h6.wr h.next.symm (h.sub hp) hA g1 fun q x hx=> ?_),g1,g3⟩
 by_cases hl:jk P ops as dg aX c ρ q
 ·right;obtain⟨j,t,y,k1,k2,k3,k4,k5,k6⟩:=hl;have hl:jk P ops as dg aX c ρ q:=⟨j,t,y,k1,k2,k3,k4,k5,k6⟩;exact⟨⟨y,k6⟩,((h.late j t q y k1 k2 k3 k4 k6).2 k5).2,by rw[g3,agl hl]⟩
 ·left;rw[g3,agf hl]
open Classical in
theorem Inv.step (hc:fL P call)(kQ:u6 P ops)(cq:nU P ops.toList wP as mw)(gF:yG (ops.toList.zip as) P call n ops 0 0 sE mw dg ch ym iE)(HE:LY P call ops (ch++[iE]) dg)(hlt:FI P ops as (ch++[iE]) dg){aX:Array Bool}{a:Act}{w:World}
 (h:Inv P ops as dg ch iE n ρ0 wP mw sE w0 aX a w) {i:Nat} (hi:i∈Region.ready .any ops aX) {K:Act->World->Prop} {Q:Exit->Act->World->Prop}
 (hK:∀a' w',Inv P ops as dg ch iE n ρ0 wP mw sE w0 (aX.setIfInBounds i true) a' w'->K a' w'):wpOp P ops Q i K a w:=by
 obtain⟨pw,yb,I6⟩:=(nh h.size).1 hi;obtain⟨fr,c,ρ,s,M,h1,h2,h3,h4,h5,h6,h7,h8,h9⟩:=h.data;have ho:ops[i]?=some ops[i]:=by simp
 generalize ops[i]=o at ho;have BX:ops.toList[i]?=some o:=by simpa using ho
 obtain⟨t,ab,t1,tW,t2,Wm,t3,t4,t5,t6,t7,t9,t10⟩:=jm cq gF BX;have EL:∀j,dO ops ops.size i j=true->la aX j:=fun j hj=>sV h.closed _ _ _ hj I6;have yh:∀j k,dO ops ops.size k j=true->la aX k->la aX j:=fun j k hj hk=>sV h.closed _ _ _ hj (h.closed k hk);have yc:i<aX.size:=by rw[h.size];exact pw
 have AT:∀x∈lM P ops o,ev fr x=ev t.fr x:=by
  intro x hx;cases x with
  |const v=>rfl
  |tmp p=>
   show dL fr p=dL t.fr p
   by_cases hd:∃(j:Nat) (oj:Oper) (d:Tmp),ops.toList[j]?=some oj/\oj.dst=some d/\d=p
   ·obtain⟨j,oj,d,g1,g2,g3⟩:=hd
    have ID:∀(j':Nat) (o':Oper) (d':Tmp),ops.toList[j']?=some o'->o'.dst=some d'->d'=p->j'=j:=by
     intro j' o' d' k1 k2 k3;have:d'=d:=(by rw[k3,g3]);subst this;rcases Nat.lt_trichotomy j' j with hlt|heq|KN
     ·exact absurd g2 (kQ.s3 j' j o' oj d' hlt k1 g1 k2)
     ·exact heq
     ·exact absurd k2 (kQ.s3 j j' oj o' d' KN g1 k1 g2)
    rcases kQ.s2 i o BX p hx j oj d g1 g2 g3 with⟨g4,g5⟩|⟨g4,g5⟩
    ·obtain⟨tj,_,g6,_⟩:=jm cq gF g1;subst g3;rw[h1.1 j oj d tj (EL j g5) g1 g2 g6,t7.1 j oj d tj g4 g1 g2 g6]
    ·rw[h1.2,t7.2]
     ·intro j' o' d' k0 k1 k2 k3;have:=ID j' o' d' k1 k2 k3;have k0:=k0;omega
     ·intro j' o' d' k0 k1 k2 k3;have:=ID j' o' d' k1 k2 k3;subst this;exact yb (yh i j' g5 k0)
   ·rw[h1.2,t7.2]
    ·exact fun j o d _ g1 g2 e=>hd ⟨j,o,d,g1,g2,e⟩
    ·exact fun j o d _ g1 g2 e=>hd ⟨j,o,d,g1,g2,e⟩
 have fin:∀v' w' ρ' c2 s2 M2,VR ρ' t.v v'->ρ.le ρ'->(∀j oj,ops.toList[j]?=some oj->jd P oj=true->(j=i\/la aX j↔fc P ops.toList j<c2))->c2<=ch.length->(ch++[iE])[c2]?=some s2->aY ρ0 wP w0 ρ' M2 w'->mw.next<=s2.next->
  (∀j b,¬la (aX.setIfInBounds i true) j->as[j]?=some (some b)->ρ' b=none)->Cv P ops as dg (aX.setIfInBounds i true) c2 ρ' s2 M2->K (a.put o.dst v') w':=by
  intro v' w' ρ' c2 s2 M2 hv hle k4 k3 k2 hA k7 k8 k9
  refine hK _ _ {
   size:=by simp[h.size]
   closed:=fun j hj o' FX e he hb=>by
    rw[iq yc]at hj⊢;rcases hj with rfl|hj
    ·exact .inr (I6 o' FX e he hb)
    ·exact .inr (h.closed j hj o' FX e he hb)
   inner:=fun j hj=>by
    rw[iq yc]at hj;rcases hj with rfl|hj
    ·exact pw
    ·exact h.inner j hj
   data:=by
    cases hd:o.dst with
    |none=>
     refine⟨fr,c2,ρ',s2,M2,⟨fun j oj d tj g1 g2 g3 g4=> ?_,fun p hp=>h1.2 p fun j oj d g1=>hp j oj d ((iq yc).2 (.inr g1))⟩,fun j oj g1 g2=> ?_,k3,k2,h5.mono hle,hA,k7,k8,k9⟩
     ·rcases(iq yc).1 g1 with rfl|g1
      ·rw[BX]at g2;cases g2;rw[hd]at g3;cases g3
      ·exact h1.1 j oj d tj g1 g2 g3 g4
     ·rw[iq yc];exact k4 j oj g1 g2
    |some d=>
     refine⟨fr.put (d) (some t.v),c2,ρ',s2,M2,⟨fun j oj d' tj g1 g2 g3 g4=> ?_,fun p hp=> ?_⟩,fun j oj g1 g2=> ?_,k3,k2,(h5.mono hle).Nk (ago (t6 d hd) h.sz) hv,hA,k7,k8,k9⟩
     ·rcases(iq yc).1 g1 with rfl|g1
      ·rw[BX]at g2;cases g2;rw[hd]at g3;cases g3;rw[t1]at g4;cases g4;exact iQ _ _ _
      ·have MG:=g1;rw[iY]
       ·exact h1.1 j oj d' tj g1 g2 g3 g4
       ·intro e;subst e;rcases Nat.lt_trichotomy j i with hlt|heq|KN
        ·exact kQ.s3 j i oj o d' hlt g2 BX g3 hd
        ·rw[heq]at MG;exact yb MG
        ·exact kQ.s3 i j o oj d' KN BX g2 hd g3
     ·rw[iY]
      ·exact h1.2 p fun j oj d' g1=>hp j oj d' ((iq yc).2 (.inr g1))
      ·exact fun e=>hp i o d ((iq yc).2 (.inl rfl)) BX hd e.symm
     ·rw[iq yc];exact k4 j oj g1 g2
   sz:=by rw[xx];exact h.sz
   defers:=by rw[rM];exact h.defers}
 have qH:jd P o=false->∀j oj,ops.toList[j]?=some oj->jd P oj=true->(j=i\/la aX j↔fc P ops.toList j<c):=fun hw j oj g1 g2=>by
  rw[h2 j oj g1 g2];constructor
  ·rintro(e|e)
   ·subst e;rw[BX]at g1;cases g1;rw[hw]at g2;cases g2
   ·exact e
  ·exact .inr
 have Ei:∀j b,¬la (aX.setIfInBounds i true) j->as[j]?=some (some b)->j≠i/\ρ b=none:=fun j b hj hb=>by
  rw[iq yc]at hj;exact⟨fun e=>hj (.inl e),h8 j b (fun hh=>hj (.inr hh)) hb⟩
 have nQ:∀j,la (aX.setIfInBounds i true) j->j≠i->la aX j:=fun j hj iJ=>by
  rcases(iq yc).1 hj with e|e
  ·exact absurd e iJ
  ·exact e
 unfold wpOp;rw[ho];dsimp only
 suffices KO:(if Region.wanted o (yielded ops a.tmps)then Oper.wp P o a w K Q else K (a.put o.dst undef) w) by
  split
  ·rename_i tT;rw[agl tT]at KO;exact .inl KO
  ·rename_i tT;rw[agf tT]at KO;exact KO
 cases ku:jI P o with
 |some tz=>
  obtain⟨b,hb⟩:=cq.news i o BX (.inl (by rw[ku];simp));rw[tW]at hb;cases hb;have hr:=cq.range i b tW;have hbn:=h8 i b yb tW;have hw:jd P o=false:=by unfold jd;rw[ku]
  have hB:kO P o=false:=by unfold kO;rw[p7 (by rw[ku];simp)]
  have NU:∀u∈dg,u.w=true->∃j oj,ops.toList[j]?=some oj/\jd P oj=true/\u.i=j/\u.c=fc P ops.toList j:=by
   intro u hu NT;obtain⟨j,hj,rfl⟩:=ahb hu;have FX:=qt cq gF (agh hj);obtain⟨tj,_,g1,_,g2,_,_,g3,g4,_⟩:=jm cq gF FX;rw[agh hj]at g1;cases g1;exact⟨j,_,FX,by rw[<-g3];exact NT,g2,g4⟩
  have Ek:∃s1,eQ P call ops (some b) o fr s= .ok t.v s1:=by
   rw[jW AT];rcases HE i t t1 (by rw[t3];exact hw) (by rw[t3];exact hB) c s h4 with⟨u,g1,g2,g3,g4⟩|⟨u,g1,g2,g3,g4⟩|⟨s2,g⟩
   ·obtain⟨j,oj,k1,k2,k3,k4⟩:=NU u g1 g2;rw[t2,k3]at g4;exact absurd (yh i j g4 ((h2 j oj k1 k2).2 (by omega))) yb
   ·obtain⟨j,oj,k1,k2,k3,k4⟩:=NU u g1 g2;rw[t2,k3]at g4;have:=(h2 j oj k1 k2).1 (EL j g4);omega
   ·rw[t3,Wm]at g;exact⟨s2,g⟩
  obtain⟨sx,IG⟩:=Ek;obtain⟨M2,m1,m2⟩:=rh M (fun _=>s.mem.get b) [b]
  have m3:∀q x,ρ q=some x->M2.mem.get q=M.mem.get q:=fun q x hx=>by
   rw[m2,agf (fun e=>by have:=ahu.1 e;subst this;rw[hbn]at hx;cases hx)]
  have Ji:=h6.rD m3 m1;refine tC ku IG (by rw[m2,agl (by simp)]) Ji h5 hbn (by rw[m1,h9.next];omega) (by omega) fun v' w' ρ' hv hA hle hq=>fin v' w' ρ' c s M2 hv hle (qH hw) h3 h4 hA h7 (fun j b' hj ig=> ?_) ⟨by rw[m1];exact h9.next,fun j t' b' x hj tU ig ha hx=> ?_,fun q x hx qT=> ?_⟩
  ·obtain⟨k1,k2⟩:=Ei j b' hj ig;rw[hq b' (fun e=>k1 (cq.uniq j i b' ig (by rw[e];exact tW)))];exact k2
  ·have qI:j≠i:=fun e=>by subst e;rw[t1]at tU;cases tU;rw[t3,hB]at ig;cases ig
   have iJ:b'≠b:=fun e=>qI (cq.uniq j i b' ha (by rw[e];exact tW));rw[hq b' iJ]at hx;obtain⟨k1,k2⟩:=h9.late j t' b' x (nQ j hj qI) tU ig ha hx;exact⟨k1,fun wV=>by rw[m3 b' x hx];exact k2 wV⟩
  ·by_cases e:q=b
   ·subst e;rw[m2,agl (by simp)]
   ·rw[hq q e]at hx;rw[m3 q x hx];exact h9.wQ q x hx qT
 |none=>
  cases pv:hU P o with
  |some x=>
   have hB:kO P o=true:=by unfold kO;rw[pv]
   obtain⟨b,hb⟩:=cq.news i o BX (.inr hB);rw[tW]at hb;cases hb;have hr:=cq.range i b tW;have hbn:=h8 i b yb tW;have hw:=wg hB;rw[<-jW AT]at t9;rcases oO pv t9 with⟨g1,g2,g3⟩|⟨g1,sx,g2,g3,g4,g5⟩
   ·rw[agf (by rw[fJ g1 h5];simp)];refine fin undef w ρ c s M (by rw[g2];exact .undef) (fun _ _ h=>h) (qH hw) h3 h4 h6 h7 (fun j b' hj ig=>(Ei j b' hj ig).2) ⟨h9.next,fun j t' b' y hj tU ig ha hy=> ?_,h9.wQ⟩
    by_cases qI:j=i
    ·subst qI;rw[tW]at ha;cases ha;rw[hbn]at hy;cases hy
    ·exact h9.late j t' b' y (nQ j hj qI) tU ig ha hy
   ·rw[agl (fJ g1 h5)];obtain⟨e,len,z,ps⟩:=x;obtain⟨l,l1,l2⟩:=D8 pv h5 g2;have uR:t.s1.mem.get b=some (.cells sx e false):=by rw[g5];exact PT.dF _ _ _
    have Jc:(c<fc P ops.toList i->s.mem.get b=none)/\(¬c<fc P ops.toList i->s.mem.get b=some (.cells sx e false)):=by
     constructor
     ·intro uS;obtain⟨d,od,d1,d2,d3,d4⟩:=pD (P:=P) (l:=ops.toList) i (Nat.le_of_lt (by simpa using pw)) c uS;obtain⟨td,_,e1,_,e2,_,e3,e4,e5,_⟩:=jm cq gF d2;have B6:¬la aX d:=fun hh=>by have:=(h2 d od d2 d3).1 hh;omega
      have a1:dO ops ops.size d i=false:=by
       cases hh:dO ops ops.size d i with
       |false=>rfl
       |true=>have:=Ab kQ _ _ _ hh;omega
      have a2:dO ops ops.size i d=false:=by
       cases hh:dO ops ops.size i d with
       |false=>rfl
       |true=>exact absurd (EL d hh) B6
      exact(hlt i t b t1 (by rw[t3];exact hB) tW d td e1 (by rw[e3];exact d3) a1 a2).1 d1 s (by rw[e5,d4];exact h4)
     ·intro uS;obtain⟨sj,j1,j2⟩:=sc cq gF t1 (by rw[t3];exact hB) tW
      have key:∀m s',fc P ops.toList i+m<=c->(ch++[iE])[fc P ops.toList i+m]?=some s'->s'.mem.get b=some (.cells sx e false):=by
       intro m
       induction m with
       |zero=>intro s' _ qf;rw[ahC,j1]at qf;cases qf;rw[j2,uR]
       |succ m ih=>
        intro s' hm qf;have hlen:=(agt.1 qf).1;obtain⟨s0,P8⟩:∃s0,(ch++[iE])[fc P ops.toList i+m]?=some s0:=⟨_,agh (by omega)⟩;have Va:fc P ops.toList i+m<fc P ops.toList ops.toList.length:=by rw[<-sL cq gF];omega
        obtain⟨d,od,d1,d2,d3,d4⟩:=pD (P:=P) (l:=ops.toList) ops.toList.length (aga _) _ Va;obtain⟨td,_,e1,_,e2,_,e3,e4,e5,_⟩:=jm cq gF d2;have B6:=(h2 d od d2 d3).2 (by omega)
        have hid:i<d:=by
         rcases Nat.lt_trichotomy i d with hh|hh|hh
         ·exact hh
         ·subst hh;exact absurd B6 yb
         ·have:=jO (P:=P) d2;rw[d3]at this;simp only[ags]at this;have:=iZ (P:=P) (l:=ops.toList) (show d+1<=i by omega);omega
        have a1:dO ops ops.size d i=false:=by
         cases hh:dO ops ops.size d i with
         |false=>rfl
         |true=>exact absurd (yh i d hh B6) yb
        have a2:dO ops ops.size i d=false:=by
         cases hh:dO ops ops.size i d with
         |false=>rfl
         |true=>have:=Ab kQ _ _ _ hh;omega
        rw[(hlt i t b t1 (by rw[t3];exact hB) tW d td e1 (by rw[e3];exact d3) a1 a2).2 hid s0 s' (by rw[e5,d4];exact P8) (by rw[e5,d4];exact qf)];exact ih s0 (by omega) P8
      have yQ:=key (c-fc P ops.toList i) s (by omega) (by rw[show fc P ops.toList i+(c-fc P ops.toList i)=c by omega];exact h4);exact yQ
    obtain⟨M2,m1,m2⟩:=rh M (fun _=>some (.cells sx e false)) [b]
    have m3:∀q x,ρ q=some x->M2.mem.get q=M.mem.get q:=fun q x hx=>by
     rw[m2,agf (fun e=>by have:=ahu.1 e;subst this;rw[hbn]at hx;cases hx)]
    have m4:M2.mem.get b=some (.cells sx e false):=by rw[m2,agl (by simp)]
    have Ji:=(h6.rD m3 m1).Cn m4 hbn (by rw[m1,h9.next];omega) l1 (by omega);have hq:∀q,q≠b->ρ.set b (w.heap.size,l.length) q=ρ q:=fun q hq=>Ren.bX _ _ _ _ hq;unfold Oper.wp;rw[l2 w];refine fin (.slice (some ⟨w.heap.size,0,none⟩) len len) _ (ρ.set b (w.heap.size,l.length)) c s M2 (by rw[g4];exact .slice _ _ _ _ _ _ (Ren.cE ρ b _)) (fun q x hx=>by rw[hq q (fun e=>by subst e;rw[hbn]at hx;cases hx)];exact hx) (qH hw) h3 h4 Ji h7 (fun j b' hj ig=> ?_) ⟨by rw[m1];exact h9.next,fun j t' b' y hj tU ig ha hy=> ?_,fun q y hy qT=> ?_⟩
    ·obtain⟨k1,k2⟩:=Ei j b' hj ig;rw[hq b' (fun e=>k1 (cq.uniq j i b' ig (by rw[e];exact tW)))];exact k2
    ·by_cases qI:j=i
     ·subst qI;rw[tW]at ha;cases ha;rw[t1]at tU;cases tU;exact⟨g3,fun wV=>⟨by rw[m4,uR],Jc.1 wV⟩⟩
     ·have iJ:b'≠b:=fun e=>qI (cq.uniq j i b' ha (by rw[e];exact tW));rw[hq b' iJ]at hy;obtain⟨k1,k2⟩:=h9.late j t' b' y (nQ j hj qI) tU ig ha hy;exact⟨k1,fun wV=>by rw[m3 b' y hy];exact k2 wV⟩
    ·by_cases e':q=b
     ·subst e';rw[m4,Jc.2 (qT i t tW t1 (by rw[t3];exact hB))]
     ·rw[hq q e']at hy;rw[m3 q y hy];exact h9.wQ q y hy qT
  |none=>
   have hB:kO P o=false:=by unfold kO;rw[pv]
   have te:=h6.wr.sub (h9.sub h8) h9.next.symm;cases hw:jd P o with
   |true=>
    have hle:¬fc P ops.toList i<c:=fun hh=>yb ((h2 i o BX hw).2 hh)
    have hcw:c=fc P ops.toList i:=by
     by_cases hlt:c<fc P ops.toList i
     ·have Mt:i<=ops.toList.length:=by simp;omega
      obtain⟨j,oj,g1,g2,g3,g4⟩:=pD (P:=P) (l:=ops.toList) i Mt c hlt;have:=(h2 j oj g2 g3).1 (EL j (kQ.s4 i j o oj BX g2 g1 hw g3));omega
     ·omega
    subst hcw;have Xk:=t10 hw;rw[h4]at Xk;cases Xk;rw[<-jW AT]at t9;obtain⟨_,hsc⟩:=mv ku pv t9;have hcs:=jO (P:=P) BX;rw[hw]at hcs;simp only[ags]at hcs;have Mt:i<ops.toList.length:=by simpa using pw
    obtain⟨k2,n1,n2,n3,n4,n5,n6⟩:=pe cq gF (ops.toList.length-(i+1)) (i+1) (by omega);rw[hcs]at n5;obtain⟨gn,gm⟩:=Pn cq gF n1 n2 n3;have Eo:=(gF.Md i t t1).symm;rw[Eo]at gn gm
    have ON:∀q j t' x,la aX j->dg[j]?=some t'->kO P t'.o=true->as[j]?=some (some q)->ρ q=some x->k2<j->(ia dg iE k2).mem.get q=none:=by
     intro q j t' x j1 j2 j3 j4 j5 j6;rcases n6 with e|⟨od,e1,e2⟩
     ·have:=(agt.1 j2).1;rw[vg cq gF]at this;omega
     ·obtain⟨td,_,d1,_,d2,_,d3,d4,d5,_⟩:=jm cq gF e1;have B6:¬la aX k2:=fun hh=>by have:=(h2 k2 od e1 e2).1 hh;omega
      have a1:dO ops ops.size k2 j=false:=by
       cases hh:dO ops ops.size k2 j with
       |false=>rfl
       |true=>have:=Ab kQ _ _ _ hh;omega
      have a2:dO ops ops.size j k2=false:=by
       cases hh:dO ops ops.size j k2 with
       |false=>rfl
       |true=>exact absurd (yh k2 j hh j1) B6
      exact(hlt j t' q j2 j3 j4 k2 td d1 (by rw[d3];exact e2) a1 a2).1 j6 _ (by rw[d5,n4,hcs];exact n5)
    have Ep:∀{j:Nat} {t':TR},dg[j]?=some t'->kO P t'.o=true->fc P ops.toList i<fc P ops.toList j->i+1<=j:=by
     intro j t' _ _ j3;rcases ahD i j with hh|hh
     ·omega
     ·have:=iZ (P:=P) (l:=ops.toList) hh;omega
    have T0:∀{j:Nat} {t':TR},dg[j]?=some t'->kO P t'.o=true->j≠k2:=by
     intro j t' j1 j2 e;subst e;rcases n6 with e|⟨od,e1,e2⟩
     ·have:=(agt.1 j1).1;rw[vg cq gF]at this;omega
     ·have:=qt cq gF j1;rw[e1]at this;cases this;rw[wg j2]at e2;cases e2
    refine mu hc hsc te h5 fun v' w' ρ' hv hA=> ?_
    have iX:∀q,jk P ops as dg aX (fc P ops.toList i) ρ q->t.s1.mem.get q=none:=by
     rintro q ⟨j,t',x,j1,j2,j3,j4,j5,j6⟩;have EB:=Ep j2 j3 j5;rcases ahD j k2 with XR|XR
     ·have hg:=(Pn cq gF (k:=i+1) (k':=j) EB (by omega) (fun j' o' q1 q2=>n3 j' o' q1 (by omega))).2 q (fun j' Sn q1 q2 q3 q4 q5=>by have:=cq.uniq j j' q j4 q5;omega);rw[Eo]at hg;rw[<-hg];have:ia dg iE j=t'.s:=by unfold ia;rw[j2]
      rw[this];exact(h9.late j t' q x j1 j2 j3 j4 j6).1
     ·rw[<-gm q fun j' Sn q1 q2 q3 q4 q5=>by have:=cq.uniq j j' q j4 q5;omega];exact ON q j t' x j1 j2 j3 j4 j6 (by have:=T0 j2 j3;omega)
    obtain⟨M1,b1,b2,b3⟩:=h9.step h8 h6 hA iX;have EE:∀q j,as[j]?=some (some q)->ρ q=none->ρ' q=none:=fun q j hj hq=>hA.Gb q (by have:=cq.range j q hj;omega) hq
    have Je:∀q j x,as[j]?=some (some q)->ρ' q=some x->∃y,ρ q=some y:=fun q j x hj hx=>by
     cases hq:ρ q with
     |some y=>exact⟨y,rfl⟩
     |none=>rw[EE q j hj hq]at hx;cases hx
    obtain⟨M2,m1,m2⟩:=rh (ia dg iE k2) (fun q=>if jk P ops as dg aX (fc P ops.toList i+1) ρ q then M.mem.get q else (ia dg iE k2).mem.get q) (as.filterMap id)
    have m3:∀q,M2.mem.get q=if jk P ops as dg aX (fc P ops.toList i+1) ρ q then M.mem.get q else (ia dg iE k2).mem.get q:=by
     intro q;rw[m2]
     by_cases hq:q∈as.filterMap id
     ·rw[agl hq]
     ·rw[agf hq,agf];rintro⟨j,t,x,_,_,_,k1,_⟩;exact hq (List.mem_filterMap.2 ⟨some q,agK k1,rfl⟩)
    have Ji:aY ρ0 wP w0 ρ' M2 w':=by
     refine b1.rD (fun q x hx=> ?_) (by rw[m1,b2,gn]);rw[m3,b3]
     by_cases hq:∃(j:Nat) (t':TR),as[j]?=some (some q)/\dg[j]?=some t'/\kO P t'.o=true
     ·obtain⟨j,t',j1,j2,j3⟩:=hq;obtain⟨y,hy⟩:=Je q j x j1 hx;have HB:=Classical.byContradiction fun hh=>by rw[h8 j q hh j1]at hy;cases hy
      have same:∀(d:Nat),jk P ops as dg aX d ρ q↔d<fc P ops.toList j:=fun d=>by
       constructor
       ·rintro⟨j',Sn,y',_,_,_,q1,q2,_⟩;rw[<-cq.uniq j' j q q1 j1];exact q2
       ·exact fun hd=>⟨j,t',y,HB,j2,j3,j1,hd,hy⟩
      by_cases c1:fc P ops.toList i+1<fc P ops.toList j
      ·rw[agl ((same _).2 c1),agl ((same _).2 (by omega))]
      ·rw[agf (fun hh=>c1 ((same _).1 hh))]
       by_cases c2:fc P ops.toList i<fc P ops.toList j
       ·rw[agl ((same _).2 c2),((h9.late j t' q y HB j2 j3 j1 hy).2 c2).1];obtain⟨sj,s1,s2⟩:=sc cq gF j2 j3 j1;rw[show fc P ops.toList j=fc P ops.toList i+1 by omega,n5]at s1;cases s1;exact s2
       ·rw[agf (fun hh=>c2 ((same _).1 hh)),gm q];intro j' Sn q1 q2 q3 q4 q5;have:=cq.uniq j j' q j1 q5;subst this;have:=iZ (P:=P) (l:=ops.toList) q1;omega
     ·have no:∀(d:Nat),¬jk P ops as dg aX d ρ q:=fun d=>by
       rintro⟨j,t',y,_,q1,q2,q3,_⟩;exact hq ⟨j,t',q3,q1,q2⟩
      rw[agf (no _),agf (no _),gm q];exact fun j t' _ _ q1 q2 q3=>hq ⟨j,t',q3,q1,q2⟩
    refine fin v' w' ρ' (fc P ops.toList i+1) (ia dg iE k2) M2 hv hA.ext (fun j oj g1 g2=> ?_) ?_ n5 Ji (by rw[gn];exact aha h7 hA.next) (fun j b' hj ig=>EE b' j ig (Ei j b' hj ig).2) ⟨m1,fun j t' b' x hj tU ig ha hx=> ?_,fun q x hx qT=> ?_⟩
    ·by_cases qI:j=i
     ·subst qI;simp
     ·have iJ:fc P ops.toList j≠fc P ops.toList i:=by
       rcases ahD j i with hlt|sw
       ·have:=jO (P:=P) g1;rw[g2]at this;simp only[ags]at this;have h':=iZ (P:=P) (l:=ops.toList) (show j+1<=i by omega);omega
       ·have h':=iZ (P:=P) (l:=ops.toList) (show i+1<=j by omega);omega
      rw[h2 j oj g1 g2];constructor
      ·rintro(e|e)
       ·exact absurd e qI
       ·omega
      ·intro e;right;omega
    ·rw[sL cq gF,<-hcs];exact iZ (by omega)
    ·have qI:j≠i:=fun e=>by subst e;rw[t1]at tU;cases tU;rw[t3,hB]at ig;cases ig
     obtain⟨y,hy⟩:=Je b' j x ha hx;have HB:=nQ j hj qI;obtain⟨q1,q2⟩:=h9.late j t' b' y HB tU ig ha hy;refine⟨q1,fun wV=>⟨?_, ?_⟩⟩
     ·rw[m3,agl ⟨j,t',y,HB,tU,ig,ha,wV,hy⟩];exact(q2 (by omega)).1
     ·have EB:=Ep tU ig (by omega);refine ON b' j t' y HB tU ig ha hy ?_;rcases ahD k2 j with hh|hh
      ·exact hh
      ·have:=iZ (P:=P) (l:=ops.toList) hh;rw[n4,hcs]at this;omega
    ·rw[m3,agf];rintro⟨j,t',y,_,q1,q2,q3,q4,_⟩;exact qT j t' q3 q1 q2 q4
   |false=>
    have NU:∀u∈dg,u.w=true->∃j oj,ops.toList[j]?=some oj/\jd P oj=true/\u.i=j/\u.c=fc P ops.toList j:=by
     intro u hu NT;obtain⟨j,hj,rfl⟩:=ahb hu;have FX:=qt cq gF (agh hj);obtain⟨tj,_,g1,_,g2,_,_,g3,g4,_⟩:=jm cq gF FX;rw[agh hj]at g1;cases g1;exact⟨j,_,FX,by rw[<-g3];exact NT,g2,g4⟩
    have Ek:∃s1,eQ P call ops ab o fr s= .ok t.v s1:=by
     rw[jW AT];rcases HE i t t1 (by rw[t3];exact hw) (by rw[t3];exact hB) c s h4 with⟨u,g1,g2,g3,g4⟩|⟨u,g1,g2,g3,g4⟩|⟨s2,g⟩
     ·obtain⟨j,oj,k1,k2,k3,k4⟩:=NU u g1 g2;rw[t2,k3]at g4;exact absurd (yh i j g4 ((h2 j oj k1 k2).2 (by omega))) yb
     ·obtain⟨j,oj,k1,k2,k3,k4⟩:=NU u g1 g2;rw[t2,k3]at g4;have:=(h2 j oj k1 k2).1 (EL j g4);omega
     ·rw[t3,Wm]at g;exact⟨s2,g⟩
    obtain⟨sx,IG⟩:=Ek;rw[mr hw hB IG]at IG;obtain⟨adb,hsc⟩:=mv ku pv IG;refine mu hc hsc te h5 fun v' w' ρ' hv hA=> ?_
    have iX:∀q,jk P ops as dg aX c ρ q->s.mem.get q=none:=by
     rintro q ⟨j,t',x,j1,j2,j3,j4,j5,j6⟩;exact((h9.late j t' q x j1 j2 j3 j4 j6).2 j5).2
    obtain⟨M1,b1,b2,b3⟩:=h9.step h8 h6 hA iX;have EE:∀q j,as[j]?=some (some q)->ρ q=none->ρ' q=none:=fun q j hj hq=>hA.Gb q (by have:=cq.range j q hj;omega) hq;refine fin v' w' ρ' c s M1 hv hA.ext (qH hw) h3 h4 b1 h7 (fun j b' hj ig=>EE b' j ig (Ei j b' hj ig).2) ⟨b2,fun j t' b' x hj tU ig ha hx=> ?_,fun q x hx qT=> ?_⟩
    ·have qI:j≠i:=fun e=>by subst e;rw[t1]at tU;cases tU;rw[t3,hB]at ig;cases ig
     cases hq:ρ b' with
     |none=>rw[EE b' j ha hq]at hx;cases hx
     |some y=>
      have HB:=nQ j hj qI;obtain⟨q1,q2⟩:=h9.late j t' b' y HB tU ig ha hq;refine⟨q1,fun wV=> ?_⟩;rw[b3,agl ⟨j,t',y,HB,tU,ig,ha,wV,hq⟩];exact q2 wV
    ·rw[b3,agf];rintro⟨j,t',y,_,q1,q2,q3,q4,_⟩;exact qT j t' q3 q1 q2 q4
theorem E8 (hc:fL P call)(kQ:u6 P ops)(cq:nU P ops.toList wP as mw)(gF:yG (ops.toList.zip as) P call n ops 0 0 sE mw dg ch ym iE)(HE:LY P call ops (ch++[iE]) dg)(hlt:FI P ops as (ch++[iE]) dg):∀(fuel:Nat) (aX:Array Bool) (a:Act) (w:World),
 Inv P ops as dg ch iE n ρ0 wP mw sE w0 aX a w->MU ops.size aX<=fuel->wpAny P .any ops (kW ρ0 wP w0 n (.norm ym iE)) fuel aX a w:=by
 intro fuel
 induction fuel with
 |zero=>
  intro aX a w h hu
  have hr:Region.ready .any ops aX=[]:=by
   rw[List.eq_nil_iff_forall_not_mem];intro i hi;obtain⟨h1,h2,h3⟩:=(nh h.size).1 hi
   have:aX.getD i true=false:=by
    have e:aX.getD i false=aX.getD i true:=by simp[h.size,h1]
    unfold la at h2;rw[e]at h2;simpa using h2
   have:=Ak h1 h.size this;omega
  exact⟨hr,h.done cq gF (sW kQ h.size hr)⟩
 |succ fuel ih=>
  intro aX a w h hu;refine⟨fun hr=>h.done cq gF (sW kQ h.size hr),fun i hi=>h.step hc kQ cq gF HE hlt hi fun a' w' h'=>ih _ a' w' h' ?_⟩;obtain⟨h1,h2,h3⟩:=(nh h.size).1 hi
  have:aX.getD i true=false:=by
   have e:aX.getD i false=aX.getD i true:=by simp[h.size,h1]
   unfold la at h2;rw[e]at h2;simpa using h2
  have:=Ak h1 h.size this;omega
open Classical in
def dK (P:Program):qN:=fun call n ops fr st=>zt P ops.toList st fun as eY=>match l5 P call n ops (ops.toList.zip as) 0 0 fr eY with
 |some r=>if u6 P ops/\LY P call ops (r.2.1++[r.2.2.2]) r.1/\FI P ops as (r.2.1++[r.2.2.2]) r.1 then .norm r.2.2.1 r.2.2.2 else .bad
 |none=> .bad
theorem mC (hm:P.follows .mixedOrders=true):nz P (dK P):=by
 intro call n hc id ops fr st ρ a w hb hw hf hn hd;unfold dK at hb⊢;obtain⟨as,eY,cq,hk⟩:=Aw (P:=P) ops.toList st;rw[hk]at hb;rw[hk];have wo:(ops.toList.zip as).map (·.1)=ops.toList:=List.map_fst_zip (by rw[cq.len];exact aga _);cases ht:l5 P call n ops (ops.toList.zip as) 0 0 fr eY with
 |none=>rw[ht]at hb;exact absurd rfl hb
 |some r=>
  obtain⟨dg,ch,ym,iE⟩:=r;rw[ht]at hb;dsimp only at hb⊢
  split at hb
  ·rename_i HE;rw[agl HE];obtain⟨kQ,HE,hlt⟩:=HE;have gF:=wZ ht (by rw[wo];exact kQ.s3);have Xu:=cq.after ρ w hw;refine wp_region_any hm ?_;refine E8 (w0:=w) hc kQ cq gF HE hlt _ _ _ _ ?_ ?_
   ·have qT:∀i,¬la (Array.replicate ops.size false) i:=fun i hi=>by
     unfold la at hi;simp only[Array.getD_eq_getD_getElem?,Array.getElem?_replicate]at hi
     split at hi<;>cases hi
    have TL:∀(j:Nat) (b:Nat),as[j]?=some (some b)->ρ b=none:=fun j b hb=>by
     have:=cq.range j b hb;cases hh:ρ b with
     |none=>rfl
     |some x=>have:=hw.fresh b x hh;omega
    obtain⟨k2,n1,n2,n3,n4,n5,n6⟩:=pe cq gF ops.toList.length 0 (by omega);obtain⟨gn,gm⟩:=Pn cq gF n1 n2 n3;have OO:=gF.fst;rw[OO]at gn gm;have Vc:fc P ops.toList 0=0:=rfl;rw[Vc]at n5;have wq:∀q x,ρ q=some x->(ia dg iE k2).mem.get q=eY.mem.get q:=fun q x hx=>gm q fun j t _ _ _ _ q5=>by rw[TL j q q5]at hx;cases hx
    exact⟨by simp,fun i hi=>absurd hi (qT i),fun i hi=>absurd hi (qT i),⟨fr,0,ρ,ia dg iE k2,ia dg iE k2,⟨fun j o d t hj=>absurd hj (qT j),fun p _=>rfl⟩,fun j o _ _=>⟨fun hh=>absurd hh (qT j),fun hh=>absurd hh (Nat.not_lt_zero _)⟩,Nat.zero_le _,n5,hf,(Xu.trans (aY.draw Xu.wr _)).rD wq gn,by rw[gn];exact aga _,fun j b _ hb=>TL j b hb,
     ⟨rfl,fun j t b x hj=>absurd hj (qT j),fun q x _ _=>rfl⟩⟩,hn,hd⟩
   ·unfold MU;exact aha List.countP_le_length (by simp)
  ·exact absurd rfl hb
end
def ue.bare:ue->Bool
 | .Iv _| .pick .. | .nil _| .un .. | .zk .. | .iface .. | .func .. | .jB .. | .lr .. | .slice3 .. | .jC .. | .fieldAddr .. | .field .. =>true
 | .ov .. | .si .. | .ot .. | .ox .. | .extract .. | .mM .. | .bin .. | .build .. =>true
 | .conv c _=>(match c with| .toInt _| .same=>true|_=>false)
 | .len k _=>(match k with| .map=>false|_=>true)
 |_=>false
structure bC (x y:OR):Prop where
 eq:∀v s,x= .ok v s->∃s',y= .ok v s'
section
variable {st st':St}
theorem bC.bad {y:OR}:bC .bad y:=⟨fun _ _ h=>by cases h⟩
theorem bC.ok (v:CV):bC (.ok v st) (.ok v st'):=⟨fun _ _ h=>by cases h;exact⟨_,rfl⟩⟩
theorem bC.bk {b:Bool}{x y x' y':OR}(hx:bC x x')(hy:bC y y'):bC (bk b x y) (bk b x' y'):=by cases b;exact hy;exact hx
theorem bC.opt {α:Type}{x:Option α}{n n':OR}{f f':α->OR}(hn:bC n n')(h:∀v,bC (f v) (f' v)):bC (Option.rec (motive:=fun _=>OR) n f x) (Option.rec (motive:=fun _=>OR) n' f' x):=by cases x;exact hn;exact h _
theorem bC.Kl {op:BinOp}{k:IntKind}{a b:Int}:bC (iU op k a b st) (iU op k a b st'):=by
 cases op<;>simp only[iU]<;>first|exact bC.ok _|exact bC.bad|(split<;>first|exact bC.ok _|exact bC.bad)
theorem bC.int {op:BinOp}{k j:IntKind}{a b:Int}:bC (ib op k a j b st) (ib op k a j b st'):=by
 cases op<;>simp only[ib]<;>split<;>first|exact bC.ok _|exact bC.bad|exact bC.Kl
theorem bC.str {op:BinOp}{a b:List UInt8}:bC (mE op a b st) (mE op a b st'):=by
 cases op<;>simp only[mE]<;>first|exact bC.ok _|exact bC.bad|(split<;>first|exact bC.ok _|exact bC.bad)
theorem bC.bin {op:BinOp}{d:Option gH}{tk:Bool}{x y:CV}:bC (ai op d tk x y st) (ai op d tk x y st'):=by
 unfold ai
 split<;>first
  |exact bC.int
  |exact bC.str
  |exact bC.bad
  |(unfold oZ;split<;>first|exact bC.bad|exact bC.bk bC.bad (bC.ok _))
  |(split
    ·unfold Mc;split<;>first|exact bC.ok _|exact bC.bad
    ·exact bC.bad)
end
theorem zm {call:dY}{op:ue}{fr:Fr}{st st':St}(h:op.bare=true):bC (bV call op fr st) (bV call op fr st'):=by
 cases op with
 |Iv x=>exact bC.ok _
 |pick c a b=>simp only[bV];unfold aK;split<;>first|exact bC.bk (bC.ok _) (bC.ok _)|exact bC.bad
 |nil x=>simp only[bV];unfold cz;split<;>first|exact bC.ok _|exact bC.bad
 |bin op d tk x y=>exact bC.bin
 |un op x=>simp only[bV];unfold fA;split<;>first|exact bC.ok _|exact bC.bad|(split<;>first|exact bC.ok _|exact bC.bad)
 |conv c x=>cases c<;>first|(cases h;done)|(simp only[bV];cases ev fr x<;>first|exact bC.ok _|exact bC.bad)
 |zk n x=>simp only[bV];unfold mF;split<;>first|exact bC.bk (bC.ok _) bC.bad|exact bC.bad
 |iface t x=>exact bC.ok _
 |func fn f c=>exact bC.ok _
 |jB x lo hi=>simp only[bV];unfold fK;split<;>first|exact bC.bad|(split<;>first|exact bC.ok _|exact bC.bad)
 |lr size x lo hi=>
  simp only[bV];unfold cc;split
  ·split<;>first|exact bC.ok _|exact bC.bad
  ·refine bC.bk ?_ bC.bad
   split
   ·exact bC.bk (bC.ok _) (bC.bk (bC.ok _) bC.bad)
   ·exact bC.bad
  ·exact bC.bad
 |slice3 size x lo hi mx=>
  simp only[bV];unfold oU;split
  ·split
   ·split
    ·exact bC.bk (bC.bk (bC.ok _) (bC.ok _)) bC.bad
    ·exact bC.bad
   ·exact bC.bad
  ·split
   ·split<;>first|exact bC.ok _|exact bC.bad
   ·exact bC.bad
  ·exact bC.bad
 |jC n size x lo hi=>simp only[bV];unfold bM;split<;>first|exact bC.bad|(split<;>first|exact bC.bad|exact bC.bk (bC.ok _) (bC.ok _))
 |fieldAddr off x=>simp only[bV];unfold al;split<;>first|exact bC.ok _|exact bC.bad
 |field agg off size x=>simp only[bV];unfold rU;split<;>first|exact bC.opt bC.bad (fun _=>bC.ok _)|exact bC.bad
 |ov n size x i=>simp only[bV];unfold cQ;split<;>first|exact bC.bk (bC.ok _) bC.bad|exact bC.bad
 |si size x i=>simp only[bV];unfold cm;split<;>first|exact bC.bk (bC.ok _) bC.bad|exact bC.bad
 |ot x i=>simp only[bV];unfold jv;split<;>first|exact bC.bad|(split<;>first|exact bC.ok _|exact bC.bad)
 |ox n size agg x i=>simp only[bV];unfold oW;split<;>first|exact bC.bk (bC.opt bC.bad (fun _=>bC.ok _)) bC.bad|exact bC.bad
 |extract x i=>simp only[bV];unfold aB;split<;>first|exact bC.opt bC.bad (fun _=>bC.ok _)|exact bC.bad
 |len k x=>cases k<;>first|(cases h;done)|(simp only[bV];unfold bO;cases ev fr x<;>first|exact bC.ok _|exact bC.bad|exact bC.bk (bC.ok _) (bC.ok _))
 |mM mx x y=>simp only[bV];unfold GG;split<;>first|exact bC.bk (bC.ok _) bC.bad|exact bC.bad
 |build z parts=>simp only[bV];unfold bf;exact bC.opt bC.bad (fun _=>bC.ok _)
 |_=>cases h
abbrev aN:=Nat->List CV->St->(CV->St->Prop)->Prop
def upon (r:OR)(k:CV->St->Prop):Prop:=match r with| .ok v st=>k v st| .bad=>False
def us (r:OR)(k:CV->Prop):Prop:=match r with| .ok v _=>k v| .bad=>False
def aS (g:Option Bool)(st:St)(r:OR):OR:=match g with|some true=>r|some false=> .ok .undef st|none=> .bad
def QD (g:Option Bool)(st:St)(yes:Prop)(k:CV->St->Prop):Prop:=match g with|some true=>yes|some false=>k .undef st|none=>False
def ag (b:Bool)(v:CV):Option Bool:=match v with| .bool c=>some (bk b c (Bool.not c))| .undef=>some false|_=>none
def eG (C:aN)(f:CV)(args:List CV)(st:St)(k:CV->St->Prop):Prop:=match f with| .func (.func g) first captured=>C g (first++(args++captured)) st k|_=>False
def aD (v:CV)(x y:Prop):Prop:=match v with| .bool true=>x| .bool false=>y|_=>False
def jH:dY:=fun _ _ _=> .bad
def iP (ops:Array Oper)(fr:Fr)(gb:Nat×Bool):Option Bool:=
 match (ops[gb.1]?).bind (·.dst)with|none=>some false|some d=>ag gb.2 (dL fr d)
def SI (C:aN)(g:Option Bool)(op:ue)(fr:Fr)(st:St)(k:CV->St->Prop):Prop:=
 match op with
 | .call f args=>QD g st (C f (A7 fr args) st k) k
 | .u5 f args=>QD g st (eG C (ev fr f) (A7 fr args) st k) k
 |op=>bif op.still then us (aS g st (bV jH op fr st)) (fun v=>k v st)else upon (aS g st (bV jH op fr st)) k
def JV (C:aN)(op:ue)(fr:Fr)(st:St)(k:CV->St->Prop):Prop:=
 match op with
 | .call f args=>C f (A7 fr args) st k
 | .u5 f args=>eG C (ev fr f) (A7 fr args) st k
 |op=>bif op.still then us (bV jH op fr st) (fun v=>k v st)else upon (bV jH op fr st) k
def Ap (P:Program)(C:aN)(ops:Array Oper)(o:Oper)(fr:Fr)(st:St)(k:CV->St->Prop):Prop:=
 match iM P o.op with
 |none=>False
 |some op=>match o.guard with
  |none=>JV C op fr st k
  |some gb=>SI C (iP ops fr gb) op fr st k
def JR (n:Nat)(dst:Option Tmp)(v:CV)(fr:Fr)(k:Fr->Prop):Prop:=match dst with|none=>k fr|some d=>bif Nat.ble (d+1) n then k (fr.put d (some v))else False
def GK (P:Program)(C:aN)(n:Nat)(ops:Array Oper):List Oper->Fr->St->(Fr->St->Prop)->Prop
 |[],fr,st,k=>k fr st
 |o::l,fr,st,k=>Ap P C ops o fr st fun v st=>JR n o.dst v fr fun fr=>GK P C n ops l fr st k
def pQ (P:Program)(C:aN)(ops:Array Oper)(ab:Option Nat)(o:Oper)(fr:Fr)(st:St)(k:CV->St->Prop):Prop:=
 match jI P o,ab with
 |none,none=>Ap P C ops o fr st k
 |some tz,some b=>upon (match o.guard with|none=>gO b tz.2 tz.1 st|some gb=>aS (iP ops fr gb) st (gO b tz.2 tz.1 st)) k
 |none,some b=>(match hU P o with
  |some x=>upon (match o.guard with
   |none=>dW b x.1 x.2.1 (cM x.2.1 x.2.2.1) (Ck fr x.2.2.2) st
   |some gb=>aS (iP ops fr gb) st (dW b x.1 x.2.1 (cM x.2.1 x.2.2.1) (Ck fr x.2.2.2) st)) k
  |none=>False)
 |_,_=>False
def vh (P:Program)(C:aN)(n:Nat)(ops:Array Oper):List (Oper×Option Nat)->Nat->Nat->Fr->St->(List TR->List St->Fr->St->Prop)->Prop
 |[],_,_,fr,st,k=>k [] [] fr st
 |o::l,i,c,fr,st,k=>pQ P C ops o.2 o.1 fr st fun v st'=>JR n o.1.dst v fr fun fr'=>bif jd P o.1
   then vh P C n ops l (i+1) (c+1) fr' st' (fun dg ch=>k (⟨i,o.2,o.1,true,c,fr,v,st,st'⟩::dg) (st::ch))
   else vh P C n ops l (i+1) c fr' st' (fun dg ch=>k (⟨i,o.2,o.1,false,c,fr,v,st,st'⟩::dg) ch)
def cj (b:Bool)(p q:Prop):Prop:=match b with|true=>q|false=>p/\q
abbrev Jy:=Nat×Nat×Oper
def ub (P:Program):List Oper->Nat->Nat->List Jy
 |[],_,_=>[]
 |o::l,i,c=>(i,c,o)::ub P l (i+1) (bif jd P o then c+1 else c)
def yC (P:Program)(o:Oper):Bool:=match jI P o with|some _=>false|none=>match iM P o.op with|some op=>op.bare|none=>false
def WL (P:Program)(a:List Jy):Bool:=uc a fun u=>Bool.not (kO P u.2.2)
def Aq (P:Program)(ops:Array Oper)(a:List Jy)(i c:Nat)(c':Nat):Bool:=
 Bool.or (Bool.and (WL P a) (Nat.beq c' c)) (Bool.or (wJ a fun u=>Bool.and (jd P u.2.2) (Bool.and (Nat.ble (Nat.succ u.2.1) c') (dO ops ops.size u.1 i)))
  (wJ a fun u=>Bool.and (jd P u.2.2) (Bool.and (Nat.ble c' u.2.1) (dO ops ops.size i u.1))))
def Wy (P:Program)(ops:Array Oper)(t:TR)(s:St):Prop:=pQ P (fun _ _ _ _=>False) ops t.ab t.o t.fr s fun v _=>v=t.v
def GX (P:Program)(ops:Array Oper)(a:List Jy)(t:TR):Nat->List St->Prop
 |_,[]=>True
 |c',s::r=>cj (Aq P ops a t.i t.c c') (Wy P ops t s) (GX P ops a t (c'+1) r)
def DS (P:Program)(ops:Array Oper)(a:List Jy)(chain:List St):List TR->Prop
 |[]=>True
 |t::r=>(match Bool.or (kO P t.o) (Bool.or (jd P t.o) (yC P t.o))with|true=>DS P ops a chain r|false=>GX P ops a t 0 chain/\DS P ops a chain r)
def AA (P:Program)(ops:Array Oper)(b:Nat)(j:Nat):List TR->List St->Prop
 |[],_=>True
 |u::r,chain=>cj (Bool.or (Bool.not (jd P u.o)) (Bool.or (dO ops ops.size u.i j) (dO ops ops.size j u.i)))
   (match Nat.ble (u.i+1) j with|true=>u.s.mem.get b=none|false=>u.s1.mem.get b=u.s.mem.get b) (AA P ops b j r chain)
def DU (P:Program)(ops:Array Oper)(all:List TR)(chain:List St):List TR->Prop
 |[]=>True
 |t::r=>(match kO P t.o with|false=>DU P ops all chain r|true=>(match t.ab with|some b=>AA P ops b t.i all chain|none=>True)/\DU P ops all chain r)
def Fa (P:Program)(C:aN)(n:Nat)(ops:Array Oper)(fr:Fr)(st:St)(k:Fr->St->Prop):Prop:=
 Dd P ops=true/\zt P ops.toList st fun as eY=>vh P C n ops (ops.toList.zip as) 0 0 fr eY fun dg ch fr' st'=>
  DS P ops (ub P ops.toList 0 0) (ch++[st']) dg/\DU P ops dg (ch++[st']) dg/\k fr' st'
def cN (k:List CV->St->Prop)(body:(List CV->St->Prop)->Prop):Prop:=body k
def uI (body:List CV->St->(List CV->St->Prop)->Prop):Nat->List CV->St->Prop
 |0,_,_=>False
 |m+1,vs,st=>body vs st (uI body m)
def cf (body:List CV->St->(List CV->St->Prop)->Prop)(vs:List CV)(st:St):Prop:=∃m,uI body m vs st
def zZ (fr:Fr)(c:Operand)(x y:Prop):Prop:=match dv c with|some c=>aD (ev fr c) x y|none=>False
def fI (P:Program)(C:aN)(lv:Nat->Option (List Nat))(n:Nat):Code->Fr->St->(Fr->St->Prop)->(Nat->Fr->St->Prop)->(Fr->St->Prop)->Prop
 | .skip,fr,st,kn,_,_=>kn fr st
 | .region _ ops draw,fr,st,kn,_,_=>bif draw then Fa P C n ops fr st kn else GK P C n ops ops.toList fr st kn
 | .seq x y,fr,st,kn,ke,kr=>(match lv (yS y)with
   |none=>fI P C lv n x fr st (fun fr st=>fI P C lv n y fr st kn ke kr) ke kr
   |some L=>cN (fun vs st=>fI P C lv n y (AD L vs) st kn ke kr) fun k=>fI P C lv n x fr st (fun fr st=>k (L.map (dL fr)) st) ke kr)
 | .cond c x y,fr,st,kn,ke,kr=>zZ fr c (fI P C lv n x fr st kn ke kr) (fI P C lv n y fr st kn ke kr)
 | .block id x,fr,st,kn,ke,kr=>fI P C lv n x fr st kn (fun i fr st=>bif Nat.beq i id then kn fr st else ke i fr st) kr
 | .loop x,fr,st,_,ke,kr=>(match lv (yS x)with
   |none=>False
   |some L=>cf (fun vs st next=>fI P C lv n x (AD L vs) st (fun fr st=>next (L.map (dL fr)) st) ke kr) (L.map (dL fr)) st)
 | .exit id,fr,st,_,ke,_=>ke id fr st
 | .scope x,fr,st,kn,ke,kr=>fI P C lv n x fr st kn ke kr
 | .label _,fr,st,kn,_,_=>kn fr st
 | .ret,fr,st,_,_,kr=>kr fr st
 |_,_,_,_,_,_=>False
def rK (P:Program)(fr:Fr)(st:St):List ResultVar->(List CV->Prop)->Prop
 |[],k=>k []
 | .tmp t::l,k=>rK P fr st l fun vs=>k (dL fr t::vs)
 | .cell a t::l,k=>(match P.underlying t,P.info? t with
   |some u,some i=>us (bif fj u then aP i.size (dL fr a) st else aw (dL fr a) st) fun v=>rK P fr st l fun vs=>k (v::vs)
   |_,_=>False)
def Gy (P:Program)(fr:Fr)(st:St)(l:List ResultVar)(Q:CV->St->Prop):Prop:=
 rK P fr st l fun vs=>match vs with|[]=>Q .undef st|[v]=>Q v st|v::u::vs=>Q (.tuple (v::u::vs)) st
def aH (P:Program)(C:aN)(lv:Nat->Option (List Nat))(f:Nat)(args:List CV)(st:St)(Q:CV->St->Prop):Prop:=
 match eV P f,P.funcs[f]? with
 |true,some fn=>(match fn.body with
  |some c=>fI P C lv fn.ntmps c (lQ args) st (fun fr st=>Gy P fr st fn.results.toList Q) (fun _ _ _=>False) (fun fr st=>Gy P fr st fn.results.toList Q)
  |none=>False)
 |_,_=>False
abbrev zr (n:Nat):List CV:=List.replicate n (.int .u8 0)
def ak:Nat->List CV->CV
 |0,vs=>vs.headD .any
 |i+1,vs=>ak i (vs.drop 1)
def eO (t:TypeId)(x:CV)(st:St):OR:=bk x.isAny .bad (dd t x.bL st)
def St.skip (st:St):St:=⟨st.mem,st.next+1⟩
def cb (g:Option Bool)(st:St)(y:(CV->St->Prop)->Prop)(k:CV->St->Prop):Prop:=QD g st (y k) k
def cd (p:Prop):Prop:=(true=true)/\p
def eN (off:Nat)(p:CV)(st:St)(k:CV->Prop):Prop:=us (cz p st) fun p=>us (al off p st) fun a=>us (aw a st) k
def yn (o1 o2:Nat)(p:CV)(st:St)(k:CV->Prop):Prop:=us (cz p st) fun p=>us (al o1 p st) fun a=>us (al o2 a st) fun a=>us (aw a st) k
def fB (g:Option Bool)(off:Nat)(p:CV)(st:St)(k:CV->Prop):Prop:=us (aS g st (cz p st)) fun p=>us (aS g st (al off p st)) fun a=>us (aS g st (aw a st)) k
def tX (n off:Nat)(p:CV)(st:St)(k:CV->Prop):Prop:=us (cz p st) fun p=>us (al off p st) fun a=>us (aP n a st) k
def kh (n off:Nat)(p x:CV)(st:St)(k:St->Prop):Prop:=us (cz p st) fun p=>us (al off p st) fun a=>upon (aT n a x st) fun _ s=>k s
def M5 (n o1 o2:Nat)(p x:CV)(st:St)(k:St->Prop):Prop:=us (cz p st) fun p=>us (al o1 p st) fun a=>us (al o2 a st) fun a=>upon (aT n a x st) fun _ s=>k s
def fl (off:Nat)(p:CV)(st:St)(k:CV->Prop):Prop:=us (al off p st) fun a=>us (aw a st) k
def eu (g:Option Bool)(off:Nat)(p:CV)(st:St)(k:CV->Prop):Prop:=us (aS g st (al off p st)) fun a=>us (aS g st (aw a st)) k
def fst (n off:Nat)(p x:CV)(st:St)(k:St->Prop):Prop:=us (al off p st) fun a=>upon (aT n a x st) fun _ s=>k s
def idx (size:Nat)(x i:CV)(st:St)(k:CV->Prop):Prop:=us (cm size x i st) fun a=>us (aw a st) k
def sm (g:Option Bool)(size:Nat)(x i:CV)(st:St)(k:CV->Prop):Prop:=us (aS g st (cm size x i st)) fun a=>us (aS g st (aw a st)) k
def jh (n size:Nat)(x i:CV)(st:St)(k:CV->Prop):Prop:=us (cm size x i st) fun a=>us (aP n a st) k
def BU (n size:Nat)(x i y:CV)(st:St)(k:St->Prop):Prop:=us (cm size x i st) fun a=>upon (aT n a y st) fun _ s=>k s
def kP (g:Option Bool)(size off:Nat)(x i:CV)(st:St)(k:CV->Prop):Prop:=us (aS g st (cm size x i st)) fun a=>us (aS g st (al off a st)) fun a=>us (aS g st (aw a st)) k
def IA (n size off:Nat)(x i:CV)(st:St)(k:CV->Prop):Prop:=us (cm size x i st) fun a=>us (al off a st) fun a=>us (aP n a st) k
section
variable (P:Program) (lvs:Nat->Nat->Option (List Nat)) (I:tc)
def RF (n:Nat):dY:=vB P (dK P) lvs I n
def ma (f:Nat)(args:List CV)(st:St)(Q:CV->St->Prop):Prop:=∃v st',(∃N,∀n,N<=n->RF P lvs I n f args st= .ok v st')/\Q v st'
end
def yM (F:Nat->OR)(k:CV->St->Prop):Prop:=∃v st',(∃N,∀n,N<=n->F n= .ok v st')/\k v st'
section
variable {P:Program} {lvs:Nat->Nat->Option (List Nat)} {I:tc}
theorem ma.mono {f:Nat}{args:List CV}{st:St}{Q Q':CV->St->Prop}(h:ma P lvs I f args st Q)(hq:∀v st',Q v st'->Q' v st'):ma P lvs I f args st Q':=by
 obtain⟨v,st',h1,h2⟩:=h;exact⟨v,st',h1,hq _ _ h2⟩
theorem yM.const {r:OR}{k:CV->St->Prop}(h:upon r k){F:Nat->OR}(hF:∀n,F n=r):yM F k:=by
 cases r with
 |ok v st=>exact⟨v,st,⟨0,fun n _=>hF n⟩,h⟩
 |bad=>exact h.elim
theorem Aj {r:OR}{st:St}{k:CV->St->Prop}(hs:Still st r)(h:us r fun v=>k v st):upon r k:=by
 cases r with
 |ok v s=>have:=hs.eq v s rfl;subst this;exact h
 |bad=>exact h
theorem uZ {f:CV}{args:List CV}{st:St}{k:CV->St->Prop}(h:eG (ma P lvs I) f args st k):yM (fun n=>pY (RF P lvs I n) f args st) k:=by
 unfold eG at h
 split at h
 ·exact h
 ·exact h.elim
theorem lC (call:dY)(op:ue)(fr:Fr)(st:St)(h1:∀f args,op≠ .call f args)(h2:∀f args,op≠ .u5 f args):bV call op fr st=bV jH op fr st:=by
 cases op<;>first|rfl|exact absurd rfl (h1 _ _)|exact absurd rfl (h2 _ _)
theorem GO {op:ue}{fr:Fr}{st:St}{k:CV->St->Prop}(h:JV (ma P lvs I) op fr st k):yM (fun n=>bV (RF P lvs I n) op fr st) k:=by
 unfold JV at h
 split at h
 ·exact h
 ·exact uZ h
 ·rename_i h1 h2
  have h':upon (bV jH op fr st) k:=by
   cases hs:op.still with
   |true=>rw[hs]at h;exact Aj (mB hs) h
   |false=>rw[hs]at h;exact h
  exact yM.const h' fun n=>lC _ _ _ _ (fun f a e=>h1 f a e) (fun f a e=>h2 f a e)
theorem yM.gd {g:Option Bool}{st:St}{F:Nat->OR}{yes:Prop}{k:CV->St->Prop}(h:QD g st yes k)(hy:yes->yM F k):yM (fun n=>aS g st (F n)) k:=by
 cases g with
 |none=>exact h.elim
 |some b=>cases b with
  |true=>exact hy h
  |false=>exact⟨_,_,⟨0,fun n _=>rfl⟩,h⟩
theorem JU {g:Option Bool}{op:ue}{fr:Fr}{st:St}{k:CV->St->Prop}(h:SI (ma P lvs I) g op fr st k):yM (fun n=>aS g st (bV (RF P lvs I n) op fr st)) k:=by
 unfold SI at h
 split at h
 ·exact yM.gd h fun h=>h
 ·exact yM.gd h fun h=>uZ h
 ·rename_i h1 h2
  have h':upon (aS g st (bV jH op fr st)) k:=by
   cases hs:op.still with
   |true=>
    rw[hs]at h;refine Aj ?_ h;cases g with
    |none=>exact Still.bad
    |some b=>cases b with
     |true=>exact mB hs
     |false=>exact Still.ok _
   |false=>rw[hs]at h;exact h
  refine yM.const h' fun n=> ?_;rw[lC _ _ _ _ (fun f a e=>h1 f a e) (fun f a e=>h2 f a e)]
theorem sy {ops:Array Oper}{fr:Fr}{o:Oper}{gb:Nat×Bool}(h:o.guard=some gb):dP ops fr o=iP ops fr gb:=by
 unfold dP iP;rw[h];dsimp only;cases (ops[gb.1]?).bind (·.dst)with
 |none=>rfl
 |some d=>dsimp only;cases dL fr d<;>rfl
theorem Dc {call:dY}{ops:Array Oper}{o:Oper}{fr:Fr}{st:St}{op:ue}(yP:iM P o.op=some op):iT P call ops o fr st=match o.guard with|none=>bV call op fr st|some gb=>aS (iP ops fr gb) st (bV call op fr st):=by
 unfold iT;cases hg:o.guard with
 |none=>
  have:dP ops fr o=some true:=by unfold dP;rw[hg]
  rw[this,yP]
 |some gb=>
  rw[sy hg,yP];dsimp only;cases iP ops fr gb with
  |none=>rfl
  |some b=>cases b<;>rfl
theorem xc {ops:Array Oper}{o:Oper}{fr:Fr}{st:St}{k:CV->St->Prop}(h:Ap P (ma P lvs I) ops o fr st k):yM (fun n=>iT P (RF P lvs I n) ops o fr st) k:=by
 unfold Ap at h;cases yP:iM P o.op with
 |none=>rw[yP]at h;exact h.elim
 |some op=>
  rw[yP]at h;dsimp only at h;have e:(fun n=>iT P (RF P lvs I n) ops o fr st)=fun n=>(match o.guard with|none=>bV (RF P lvs I n) op fr st|some gb=>aS (iP ops fr gb) st (bV (RF P lvs I n) op fr st)):=funext fun n=>Dc yP;rw[e];cases hg:o.guard with
  |none=>rw[hg]at h;exact GO h
  |some gb=>rw[hg]at h;exact JU h
theorem xy {n:Nat}{dst:Option Tmp}{v:CV}{fr:Fr}{k:Fr->Prop}(h:JR n dst v fr k):∃fr',xz n dst v fr=some fr'/\k fr':=by
 cases dst with
 |none=>exact⟨fr,rfl,h⟩
 |some d=>
  have h':(bif Nat.ble (d+1) n then k (fr.put d (some v))else False):=h;cases hb:Nat.ble (d+1) n with
  |false=>rw[hb]at h';exact h'.elim
  |true=>
   rw[hb]at h';refine⟨_, ?_,h'⟩;unfold xz;simp only[dj,aO];rw[agl hb]
theorem GJ {n:Nat}{ops:Array Oper}:∀{l:List Oper} {fr:Fr} {st:St} {k:Fr->St->Prop},GK P (ma P lvs I) n ops l fr st k->
 ∃fr' st',(∃N,∀m,N<=m->ko P (RF P lvs I m) n ops l fr st= .norm fr' st')/\k fr' st':=by
 intro l
 induction l with
 |nil=>intro fr st k h;exact⟨fr,st,⟨0,fun _ _=>rfl⟩,h⟩
 |cons o l ih=>
  intro fr st k h;obtain⟨v,eY,⟨N,hN⟩,h1⟩:=xc h;obtain⟨iK,p1,h2⟩:=xy h1;obtain⟨fr',st',⟨N',MA⟩,h3⟩:=ih h2;refine⟨fr',st',⟨max N N',fun m hm=> ?_⟩,h3⟩;have CK:=hN m (by omega);dsimp only at CK;rw[qx,CK];dsimp only;rcases uz p1 with⟨e,rfl⟩|⟨d,e,hd,rfl⟩
  ·rw[e];exact MA m (by omega)
  ·rw[e];dsimp only;rw[agl hd];exact MA m (by omega)
theorem uk {ops:Array Oper}{ab:Option Nat}{o:Oper}{fr:Fr}{st:St}{k:CV->St->Prop}(h:pQ P (ma P lvs I) ops ab o fr st k):yM (fun n=>eQ P (RF P lvs I n) ops ab o fr st) k:=by
 have key:∀(r:OR),upon (match o.guard with|none=>r|some gb=>aS (iP ops fr gb) st r) k->yM (fun _=>(match dP ops fr o with|some true=>r|some false=> .ok .undef st|none=> .bad)) k:=by
  intro r hr;refine yM.const hr fun n=> ?_;cases hg:o.guard with
  |none=>
   have:dP ops fr o=some true:=by unfold dP;rw[hg]
   rw[this]
  |some gb=>
   rw[sy hg];dsimp only;cases iP ops fr gb with
   |none=>rfl
   |some b=>cases b<;>rfl
 unfold pQ at h;unfold eQ
 split at h
 ·rename_i h1;rw[h1];exact xc h
 ·rename_i tz b h1;rw[h1];exact key _ h
 ·rename_i b h1;rw[h1];dsimp only
  split at h
  ·rename_i x hx;rw[hx];exact key _ h
  ·exact h.elim
 ·exact h.elim
theorem zg {ops:Array Oper}{ab:Option Nat}{o:Oper}{fr:Fr}{st:St}{k:CV->St->Prop}(h:pQ P (fun _ _ _ _=>False) ops ab o fr st k):yM (fun _=>eQ P jH ops ab o fr st) k:=by
 have h2:pQ P (ma P (fun _ _=>none) (fun _ _ _=>some .bad)) ops ab o fr st k:=by
  have e:(ma P (fun _ _=>none) (fun _ _ _=>some OR.bad))=fun _ _ _ _=>False:=by
   funext f args st k
   refine propext ⟨?_,fun h=>h.elim⟩;rintro⟨v,st',⟨N,hN⟩,_⟩;have:=hN (N+1) (by omega);unfold RF at this;simp only[vB]at this;cases this
  rw[e];exact h
 obtain⟨v,s1,⟨N,hN⟩,hk⟩:=uk h2;refine⟨v,s1,⟨0,fun _ _=> ?_⟩,hk⟩
 have e:∀n,RF P (fun _ _=>none) (fun _ _ _=>some OR.bad) n=jH:=by
  intro n
  funext f args st
  cases n with
  |zero=>rfl
  |succ n=>unfold RF;simp only[vB];rfl
 have:=hN N (aga _);dsimp only at this;rw[e]at this;exact this
theorem Bm {n:Nat}{ops:Array Oper}:∀{l:List (Oper×Option Nat)} {i c:Nat} {fr:Fr} {st:St} {k:List TR->List St->Fr->St->Prop},vh P (ma P lvs I) n ops l i c fr st k->
 ∃dg ch fr' st',(∃N,∀m,N<=m->l5 P (RF P lvs I m) n ops l i c fr st=some (dg,ch,fr',st'))/\k dg ch fr' st':=by
 intro l
 induction l with
 |nil=>intro i c fr st k h;exact⟨[],[],fr,st,⟨0,fun _ _=>rfl⟩,h⟩
 |cons o l ih=>
  intro i c fr st k h;obtain⟨v,eY,⟨N,hN⟩,h1⟩:=uk h;obtain⟨iK,p1,h2⟩:=xy h1
  have e:∀call,l5 P call n ops (o::l) i c fr st=OR.rec (fun v st'=>j9 v fun v=>j9 st' fun st'=>
   Option.rec none (fun fr'=>bk (jd P o.1)
    (Option.rec none (fun r=>some (⟨i,o.2,o.1,true,c,fr,v,st,st'⟩::r.1,st::r.2.1,r.2.2)) (l5 P call n ops l (Nat.succ i) (Nat.succ c) fr' st'))
    (Option.rec none (fun r=>some (⟨i,o.2,o.1,false,c,fr,v,st,st'⟩::r.1,r.2.1,r.2.2)) (l5 P call n ops l (Nat.succ i) c fr' st'))) (xz n o.1.dst v fr)) none (eQ P call ops o.2 o.1 fr st):=fun _=>rfl
  cases hw:jd P o.1 with
  |true=>
   rw[hw]at h2;obtain⟨dg,ch,fr',st',⟨N',MA⟩,h3⟩:=ih h2;refine⟨_,_,fr',st',⟨max N N',fun m hm=> ?_⟩,h3⟩;have CK:=hN m (by omega);dsimp only at CK;rw[e,CK];simp only[dj,p1,aO,hw,ags];rw[MA m (by omega)]
  |false=>
   rw[hw]at h2;obtain⟨dg,ch,fr',st',⟨N',MA⟩,h3⟩:=ih h2;refine⟨_,_,fr',st',⟨max N N',fun m hm=> ?_⟩,h3⟩;have CK:=hN m (by omega);dsimp only at CK;rw[e,CK];simp only[dj,p1,aO,hw,afY,agn];rw[MA m (by omega)]
theorem vm {call:dY}{ops:Array Oper}{ab:Option Nat}{o:Oper}{fr:Fr}{st s1:St}{v:CV}(hw:jd P o=false)(h:eQ P jH ops ab o fr st= .ok v s1):eQ P call ops ab o fr st= .ok v s1:=by
 unfold eQ at h⊢
 split at h
 ·unfold iT at h⊢
  split at h
  ·rename_i tT
   try rw[tT]
   split at h
   ·rename_i op yP;rw[lC call op]
    ·exact h
    ·intro f args e;subst e;cases h
    ·intro f args e;subst e;have h':pY jH (ev fr f) (A7 fr args) st= .ok v s1:=h;unfold pY at h'
     split at h'<;>cases h'
   ·cases h
  ·exact h
  ·cases h
 ·exact h
 ·exact h
 ·cases h
theorem zf {call:dY}{ops:Array Oper}{o:Oper}{ab:Option Nat}{fr:Fr}{st s1:St}{v:CV}(hb:yC P o=true)(hbl:kO P o=false)(h:eQ P call ops ab o fr st= .ok v s1)(s:St):∃s2,eQ P call ops ab o fr s= .ok v s2:=by
 have hl:hU P o=none:=by
  unfold kO at hbl;cases hl:hU P o with
  |none=>rfl
  |some x=>rw[hl]at hbl;cases hbl
 unfold yC at hb;unfold eQ at h⊢;cases hn:jI P o with
 |some tz=>rw[hn]at hb;cases hb
 |none=>
  rw[hn]at hb h;dsimp only at hb h;cases ab with
  |some b=>dsimp only at h;rw[hl]at h;cases h
  |none=>
   dsimp only at h⊢;unfold iT at h⊢;cases hw:dP ops fr o with
   |none=>rw[hw]at h;cases h
   |some b=>
    rw[hw]at h;cases b with
    |false=>cases h;exact⟨_,rfl⟩
    |true=>
     dsimp only at h⊢;cases yP:iM P o.op with
     |none=>rw[yP]at h;cases h
     |some op=>
      rw[yP]at h hb;exact(zm hb).eq _ _ h
theorem Bg (P:Program):∀(l:List Oper) (i c k:Nat) (o:Oper),l[k]?=some o->(ub P l i c)[k]?=some (i+k,c+fc P l k,o):=by
 intro l
 induction l with
 |nil=>intro i c k o h;simp at h
 |cons o' l ih=>
  intro i c k o h;cases k with
  |zero=>simp at h;subst h;rfl
  |succ k=>
   show(ub P l (i+1) (bif jd P o' then c+1 else c))[k]?=_;rw[ih _ _ k o (by simpa using h),pE];cases jd P o'<;>simp<;>omega
theorem yD (P:Program):∀(l:List Oper) (i c:Nat),(ub P l i c).length=l.length:=by
 intro l
 induction l with
 |nil=>intro i c;rfl
 |cons o l ih=>intro i c;show(ub P l _ _).length+1=_;rw[ih];rfl
theorem Fx {l:List Oper}{x:Jy}(h:x∈ub P l 0 0):∃o,l[x.1]?=some o/\x=(x.1,fc P l x.1,o):=by
 obtain⟨k,hk,rfl⟩:=ahb h;rw[yD]at hk;have h1:=Bg P l 0 0 k l[k] (agh hk);rw[agh (by rw[yD];exact hk)]at h1;have h2:=Option.some.inj h1;rw[h2];simp only[afZ];exact⟨l[k],agh hk,rfl⟩
theorem Lu {call:dY}{n:Nat}{ops:Array Oper}{as:List (Option Nat)}{dg:List TR}{ch:List St}{wP mw iE:St}{sE ym:Fr}(cq:nU P ops.toList wP as mw)(gF:yG (ops.toList.zip as) P call n ops 0 0 sE mw dg ch ym iE)(qT:∀(j:Nat) (o:Oper),ops.toList[j]?=some o->kO P o=false){k:Nat}:
 ∀{k':Nat},k<=k'->k'<=ops.toList.length->(∀(j:Nat) (o:Oper),k<=j->j<k'->ops.toList[j]?=some o->jd P o=false)->ia dg iE k'=ia dg iE k:=by
 intro k'
 induction k' with
 |zero=>intro h _ _;have:k=0:=by omega
        subst this;rfl
 |succ k' ih=>
  intro h hl hw
  by_cases hk:k=k'+1
  ·subst hk;rfl
  have i1:=ih (by omega) (by omega) (fun j o h1 h2=>hw j o h1 (by omega));have ho:ops.toList[k']?=some ops.toList[k']:=agh (by omega);generalize ops.toList[k']=o at ho;obtain⟨t,ab,h1,h2,h3,h4,h5,h6,h7,h8,h9,HN,QB⟩:=jm cq gF ho;rw[<-gF.Md k' t h1,<-i1,mr (hw k' o (by omega) (by omega) ho) (qT k' o ho) HN];unfold ia;rw[h1]
theorem Fh {b:Bool}{p q:Prop}(h:cj b p q):q/\(b=false->p):=by
 cases b with
 |true=>exact⟨h,fun e=>by cases e⟩
 |false=>exact⟨h.2,fun _=>h.1⟩
theorem GW {ops:Array Oper}{a:List Jy}{t:TR}:∀{chain:List St} {c0:Nat},GX P ops a t c0 chain->∀(j:Nat) (s:St),chain[j]?=some s->Aq P ops a t.i t.c (c0+j)=false->Wy P ops t s:=by
 intro chain
 induction chain with
 |nil=>intro c0 _ j s h;simp at h
 |cons s0 r ih=>
  intro c0 h j s hj hs;obtain⟨h1,h2⟩:=Fh (show cj _ _ _ from h);cases j with
  |zero=>simp at hj;subst hj;exact h2 hs
  |succ j=>exact ih h1 j s (by simpa using hj) (by rw[show c0+1+j=c0+(j+1) by omega];exact hs)
theorem GU {ops:Array Oper}{a:List Jy}{chain:List St}:∀{dg:List TR},DS P ops a chain dg->∀t∈dg,kO P t.o=false->jd P t.o=false->yC P t.o=false->GX P ops a t 0 chain:=by
 intro dg
 induction dg with
 |nil=>intro _ t h;cases h
 |cons t0 r ih=>
  intro h t ht h1 h2 h3;simp only[DS]at h;rcases age.1 ht with rfl|ht
  ·rw[h1,h2,h3]at h;exact h.1
  ·split at h
   ·exact ih h t ht h1 h2 h3
   ·exact ih h.2 t ht h1 h2 h3
theorem DT {ops:Array Oper}{b j:Nat}{chain:List St}:∀{dg:List TR},AA P ops b j dg chain->∀u∈dg,jd P u.o=true->dO ops ops.size u.i j=false->dO ops ops.size j u.i=false->
 (u.i<j->u.s.mem.get b=none)/\(j<u.i->u.s1.mem.get b=u.s.mem.get b):=by
 intro dg
 induction dg with
 |nil=>intro _ t h;cases h
 |cons t0 r ih=>
  intro h t ht h1 h2 h3;obtain⟨k1,k2⟩:=Fh (show cj _ _ _ from h);rcases age.1 ht with rfl|ht
  ·have:=k2 (by rw[h1,h2,h3];rfl);constructor
   ·intro hlt;rw[show Nat.ble (t.i+1) j=true by rw[agw];exact hlt]at this;exact this
   ·intro hlt;rw[show Nat.ble (t.i+1) j=false by cases hb:Nat.ble (t.i+1) j with|false=>rfl|true=>rw[agw]at hb;omega]at this;exact this
  ·exact ih k1 t ht h1 h2 h3
theorem GV {ops:Array Oper}{all:List TR}{chain:List St}:∀{dg:List TR},DU P ops all chain dg->∀t∈dg,kO P t.o=true->∀b,t.ab=some b->AA P ops b t.i all chain:=by
 intro dg
 induction dg with
 |nil=>intro _ t h;cases h
 |cons t0 r ih=>
  intro h t ht h1 b hb;simp only[DU]at h;rcases age.1 ht with rfl|ht
  ·rw[h1]at h;have:=h.1;rw[hb]at this;exact this
  ·split at h
   ·exact ih h t ht h1 b hb
   ·exact ih h.2 t ht h1 b hb
theorem E9 {n:Nat}{ops:Array Oper}{fr:Fr}{st:St}{k:Fr->St->Prop}(h:Fa P (ma P lvs I) n ops fr st k):
 ∃fr' st',(∃N,∀m,N<=m->dK P (RF P lvs I m) n ops fr st= .norm fr' st')/\k fr' st':=by
 obtain⟨NV,h⟩:=h;have kQ:=zh NV;obtain⟨as,eY,cq,hk⟩:=Aw (P:=P) ops.toList st;rw[hk]at h;obtain⟨dg,ch,fr',st',⟨N,hN⟩,hR,hL,CG⟩:=Bm h;refine⟨fr',st',⟨N,fun m hm=> ?_⟩,CG⟩;have Ej:=hN m hm;unfold dK;rw[hk,Ej];dsimp only;have wo:(ops.toList.zip as).map (·.1)=ops.toList:=List.map_fst_zip (by rw[cq.len];exact aga _);have gF:=wZ Ej (by rw[wo];exact kQ.s3)
 have Om:∀(i:Nat) (o:Oper),ops.toList[i]?=some o->(i,fc P ops.toList i,o)∈ub P ops.toList 0 0:=fun i o Qh=>by
  have:=Bg P ops.toList 0 0 i o Qh;simp only[afZ]at this;exact agK this
 rw[agl];refine⟨kQ, ?_, ?_⟩
 ·intro i t P4 Xj Xl c s hc;have Qh:=qt cq gF P4;obtain⟨t',ab,g1,tW,g2,g3,g4,g5,g6,g7,g8,MF,Yq⟩:=jm cq gF Qh;rw[P4]at g1;cases g1
  have hu:∀u∈ub P ops.toList 0 0,jd P u.2.2=true->∃tu∈dg,tu.w=true/\tu.c=u.2.1/\tu.i=u.1:=by
   intro u hu NT;obtain⟨ou,ho,e⟩:=Fx hu;obtain⟨tu,_,k1,_,k2,k3,k4,k5,k6,_⟩:=jm cq gF ho;have e2:u.2.2=ou:=by rw[e]
   have e3:u.2.1=fc P ops.toList u.1:=by rw[e]
   exact⟨tu,agK k1,by rw[k5,<-e2];exact NT,by rw[k6,e3],k2⟩
  cases Jd:yC P t.o with
  |true=>exact .inr (.inr (by rw[g3];exact zf Jd Xl MF s))
  |false=>
   cases uO:Aq P ops (ub P ops.toList 0 0) t.i t.c c with
   |true=>
    unfold Aq at uO;simp only[agU,agp,agA,sU]at uO;rcases uO with⟨KE,uO⟩|⟨u,Mn,Ko,Hq⟩|⟨u,Mn,Ko,Hq⟩
    ·have qT:=fun j o hj=>by
      unfold WL at KE;rw[jQ]at KE;have:=KE _ (Om j o hj)
      simpa using this
     have Mt:=(agt.1 Qh).1;obtain⟨k2,n1,n2,n3,n4,n5,n6⟩:=pe cq gF (ops.toList.length-i) i (by omega);have e6:=Lu cq gF qT n1 n2 n3;have e7:ia dg st' i=t.s:=by unfold ia;rw[P4]
     rw[uO,g6,n5]at hc;cases hc;refine .inr (.inr ⟨t.s1, ?_⟩);rw[e6,e7,g3];exact MF
    ·simp only[agw]at Hq;obtain⟨tu,k1,k2,k3,k4⟩:=hu u Mn Ko;exact .inl ⟨tu,k1,k2,by rw[k3];exact Hq.1,by rw[k4];exact Hq.2⟩
    ·simp only[agw]at Hq;obtain⟨tu,k1,k2,k3,k4⟩:=hu u Mn Ko;exact .inr (.inl ⟨tu,k1,k2,by rw[k3];exact Hq.1,by rw[k4];exact Hq.2⟩)
   |false=>
    refine .inr (.inr ?_);have h1:=GW (GU hR t (agK P4) Xl Xj Jd) c s hc (by rw[afZ];exact uO);obtain⟨v,s1,⟨N1,CK⟩,hv⟩:=zg h1;subst hv;exact⟨s1,vm Xj (CK N1 (aga _))⟩
 ·intro j tj b hj hjB XS d td hd U2 a1 a2;have FX:=qt cq gF hj;have TX:=qt cq gF hd;obtain⟨tj',_,m1,m5,m2,m3,_,_,m4,_⟩:=jm cq gF FX;rw[hj]at m1;cases m1;obtain⟨td',_,p1,_,p2,_,p3,_,p4,_,_,_,p11⟩:=jm cq gF TX;rw[hd]at p1;cases p1
  have hb:tj.ab=some b:=by
   rw[XS]at m5;have:=Option.some.inj m5;rw[m3,<-this]
  have h1:=DT (GV hL tj (agK hj) hjB b hb) td (agK hd) U2 (by rw[p2,m2];exact a1) (by rw[p2,m2];exact a2);rw[p2,m2]at h1;have e1:=p11 U2;rw[<-p4]at e1;constructor
  ·intro hlt s hs;rw[e1]at hs;cases hs;exact h1.1 hlt
  ·intro hlt s s' hs qf;rw[e1]at hs;cases hs;have e2:(ch++[st'])[td.c+1]?=some td.s1\/True:= .inr trivial;obtain⟨k2,n1,n2,n3,n4,n5,n6⟩:=pe cq gF (ops.toList.length-(d+1)) (d+1) (by have:=(agt.1 TX).1;omega);have e3:fc P ops.toList (d+1)=td.c+1:=by rw[jO TX,U2,p4];rfl
   rw[e3]at n5;rw[n5]at qf;cases qf;obtain⟨q1,q2⟩:=Pn cq gF n1 n2 n3;have e4:=(gF.Md d td hd).symm
   by_cases pw:∃j2 t2,d+1<=j2/\j2<k2/\dg[j2]?=some t2/\kO P t2.o=true/\as[j2]?=some (some b)
   ·exfalso;obtain⟨j2,t2,r1,r2,r3,r4,r5⟩:=pw;have:=cq.uniq j j2 b XS r5;omega
   ·rw[q2 b (fun j2 t2 r1 r2 r3 r4 r5=>pw ⟨j2,t2,r1,r2,r3,r4,r5⟩),e4];exact h1.2 hlt
def KR (kn:Fr->St->Prop)(ke:Nat->Fr->St->Prop)(kr:Fr->St->Prop):Rs->Prop
 | .norm fr st=>kn fr st
 | .exit i fr st=>ke i fr st
 | .ret fr st=>kr fr st
 | .bad=>False
theorem Fg {n:Nat}{lv:Nat->Option (List Nat)}(c:Code):∀{fr:Fr} {st:St} {kn:Fr->St->Prop} {ke:Nat->Fr->St->Prop} {kr:Fr->St->Prop},fI P (ma P lvs I) lv n c fr st kn ke kr->
 ∃r,(∃N,∀m,N<=m->iB P (RF P lvs I m) (dK P) lv m n c fr st=r)/\KR kn ke kr r:=by
 induction c with
 |skip=>intro fr st kn ke kr h;exact⟨.norm fr st,⟨0,fun _ _=>rfl⟩,h⟩
 |region id ops draw=>
  intro fr st kn ke kr h;cases draw with
  |true=>
   obtain⟨fr',st',⟨N,hN⟩,h1⟩:=E9 (show Fa P (ma P lvs I) n ops fr st kn from h);exact⟨.norm fr' st',⟨N,fun m hm=>hN m hm⟩,h1⟩
  |false=>
   obtain⟨fr',st',⟨N,hN⟩,h1⟩:=GJ (show GK P (ma P lvs I) n ops ops.toList fr st kn from h);exact⟨.norm fr' st',⟨N,fun m hm=>hN m hm⟩,h1⟩
 |seq x y hx hy=>
  intro fr st kn ke kr h
  have key:fI P (ma P lvs I) lv n x fr st (fun fr st=>fI P (ma P lvs I) lv n y (qj (lv (yS y)) fr) st kn ke kr) ke kr:=by
   have h':(match lv (yS y)with
    |none=>fI P (ma P lvs I) lv n x fr st (fun fr st=>fI P (ma P lvs I) lv n y fr st kn ke kr) ke kr
    |some L=>cN (fun vs st=>fI P (ma P lvs I) lv n y (AD L vs) st kn ke kr) fun k=>fI P (ma P lvs I) lv n x fr st (fun fr st=>k (L.map (dL fr)) st) ke kr):=h
   cases hl:lv (yS y)with
   |none=>rw[hl]at h';exact h'
   |some L=>rw[hl]at h';exact h'
  obtain⟨r,⟨N,hN⟩,hr⟩:=hx key;cases r with
  |norm iK eY=>
   obtain⟨r2,⟨N2,Mz⟩,hr2⟩:=hy (show fI P (ma P lvs I) lv n y (qj (lv (yS y)) iK) eY kn ke kr from hr);refine⟨r2,⟨max N N2,fun m hm=> ?_⟩,hr2⟩;show nL (iB P (RF P lvs I m) (dK P) lv m n x fr st) _=r2;rw[hN m (by omega)];exact Mz m (by omega)
  |exit i iK eY=>
   refine⟨.exit i iK eY,⟨N,fun m hm=> ?_⟩,hr⟩;show nL (iB P (RF P lvs I m) (dK P) lv m n x fr st) _=_;rw[hN m hm];rfl
  |ret iK eY=>
   refine⟨.ret iK eY,⟨N,fun m hm=> ?_⟩,hr⟩;show nL (iB P (RF P lvs I m) (dK P) lv m n x fr st) _=_;rw[hN m hm];rfl
  |bad=>exact(show False from hr).elim
 |cond c x y hx hy=>
  intro fr st kn ke kr h;have h':zZ fr c (fI P (ma P lvs I) lv n x fr st kn ke kr) (fI P (ma P lvs I) lv n y fr st kn ke kr):=h;have e:∀m,iB P (RF P lvs I m) (dK P) lv m n (.cond c x y) fr st=uX c (iB P (RF P lvs I m) (dK P) lv m n x) (iB P (RF P lvs I m) (dK P) lv m n y) fr st:=fun _=>rfl;unfold zZ at h';cases hc:dv c with
  |none=>rw[hc]at h';exact h'.elim
  |some a=>
   rw[hc]at h';dsimp only at h';unfold aD at h'
   split at h'
   ·rename_i hv;obtain⟨r,⟨N,hN⟩,hr⟩:=hx h';exact⟨r,⟨N,fun m hm=>by rw[e];unfold uX;rw[hc];dsimp only;rw[hv];exact hN m hm⟩,hr⟩
   ·rename_i hv;obtain⟨r,⟨N,hN⟩,hr⟩:=hy h';exact⟨r,⟨N,fun m hm=>by rw[e];unfold uX;rw[hc];dsimp only;rw[hv];exact hN m hm⟩,hr⟩
   ·exact h'.elim
 |block id x hx=>
  intro fr st kn ke kr h;obtain⟨r,⟨N,hN⟩,hr⟩:=hx (show fI P (ma P lvs I) lv n x fr st kn (fun i fr st=>bif Nat.beq i id then kn fr st else ke i fr st) kr from h);refine⟨mP id r,⟨N,fun m hm=> ?_⟩, ?_⟩
  ·show mP id (iB P (RF P lvs I m) (dK P) lv m n x fr st)=_;rw[hN m hm]
  ·cases r with
   |norm iK eY=>exact hr
   |ret iK eY=>exact hr
   |bad=>exact hr
   |exit i iK eY=>
    have Mp:(bif Nat.beq i id then kn iK eY else ke i iK eY):=hr;show KR kn ke kr (bk (Nat.beq i id) (.norm iK eY) (.exit i iK eY));cases hb:Nat.beq i id with
    |true=>rw[hb]at Mp;exact Mp
    |false=>rw[hb]at Mp;exact Mp
 |loop x hx=>
  intro fr st kn ke kr h
  have h':(match lv (yS x)with
   |none=>False
   |some L=>cf (fun vs st next=>fI P (ma P lvs I) lv n x (AD L vs) st (fun fr st=>next (L.map (dL fr)) st) ke kr) (L.map (dL fr)) st):=h
  cases hl:lv (yS x)with
  |none=>rw[hl]at h';exact h'.elim
  |some L=>
   rw[hl]at h';obtain⟨m0,Um⟩:=h'
   have key:∀(m0:Nat) (fr:Fr) (st:St),uI (fun vs st next=>fI P (ma P lvs I) lv n x (AD L vs) st (fun fr st=>next (L.map (dL fr)) st) ke kr) m0 (L.map (dL fr)) st->
    ∃r,(∃N,∀m,N<=m->∀j,m0<=j->qB (iB P (RF P lvs I m) (dK P) lv m n x) (some L) j fr st=r)/\KR kn ke kr r:=by
    intro m0
    induction m0 with
    |zero=>intro fr st hh;exact hh.elim
    |succ m0 ih=>
     intro fr st hh;obtain⟨r,⟨N,hN⟩,hr⟩:=hx (show fI P (ma P lvs I) lv n x (AD L (L.map (dL fr))) st (fun fr st=>uI (fun vs st next=>fI P (ma P lvs I) lv n x (AD L vs) st (fun fr st=>next (L.map (dL fr)) st) ke kr) m0 (L.map (dL fr)) st) ke kr from hh);cases r with
     |norm iK eY=>
      obtain⟨r2,⟨N2,Mz⟩,hr2⟩:=ih iK eY hr;refine⟨r2,⟨max N N2,fun m hm j hj=> ?_⟩,hr2⟩;obtain⟨j,rfl⟩:∃i,j=i+1:=⟨j-1,by omega⟩;show nL (iB P (RF P lvs I m) (dK P) lv m n x (qj (some L) fr) st) _=r2;rw[show qj (some L) fr=AD L (L.map (dL fr))from rfl,hN m (by omega)];exact Mz m (by omega) j (by omega)
     |exit i iK eY=>
      refine⟨.exit i iK eY,⟨N,fun m hm j hj=> ?_⟩,hr⟩;obtain⟨j,rfl⟩:∃i,j=i+1:=⟨j-1,by omega⟩;show nL (iB P (RF P lvs I m) (dK P) lv m n x (qj (some L) fr) st) _=_;rw[show qj (some L) fr=AD L (L.map (dL fr))from rfl,hN m hm];rfl
     |ret iK eY=>
      refine⟨.ret iK eY,⟨N,fun m hm j hj=> ?_⟩,hr⟩;obtain⟨j,rfl⟩:∃i,j=i+1:=⟨j-1,by omega⟩;show nL (iB P (RF P lvs I m) (dK P) lv m n x (qj (some L) fr) st) _=_;rw[show qj (some L) fr=AD L (L.map (dL fr))from rfl,hN m hm];rfl
     |bad=>exact(show False from hr).elim
   obtain⟨r,⟨N,hN⟩,hr⟩:=key m0 fr st Um;refine⟨r,⟨max N m0,fun m hm=> ?_⟩,hr⟩;show qB (iB P (RF P lvs I m) (dK P) lv m n x) (lv (yS x)) m fr st=r;rw[hl];exact hN m (by omega) m (by omega)
 |exit id=>intro fr st kn ke kr h;exact⟨.exit id fr st,⟨0,fun _ _=>rfl⟩,h⟩
 |scope x hx=>intro fr st kn ke kr h;exact hx h
 |label l=>intro fr st kn ke kr h;exact⟨.norm fr st,⟨0,fun _ _=>rfl⟩,h⟩
 |ret=>intro fr st kn ke kr h;exact⟨.ret fr st,⟨0,fun _ _=>rfl⟩,h⟩
 |rangeFunc f ps x y hx hy=>intro fr st kn ke kr h;exact(show False from h).elim
 |goto l=>intro fr st kn ke kr h;exact(show False from h).elim
 |refuse y=>intro fr st kn ke kr h;exact(show False from h).elim
theorem Du {fr:Fr}{st:St}:∀{l:List ResultVar} {k:List CV->Prop},rK P fr st l k->∃vs,zo P fr st l=some vs/\k vs:=by
 intro l
 induction l with
 |nil=>intro k h;exact⟨[],rfl,h⟩
 |cons r l ih=>
  intro k h;have e:zo P fr st (r::l)=(match ux P fr st r,zo P fr st l with|some v,some l=>some (v::l)|_,_=>none):=rfl;cases r with
  |tmp t=>
   obtain⟨vs,h1,h2⟩:=ih (show rK P fr st l fun vs=>k (dL fr t::vs)from h);exact⟨_,by rw[e,h1];rfl,h2⟩
  |cell a t=>
   simp only[rK]at h
   split at h
   ·rename_i u i hu hi
    have e1:ux P fr st (.cell a t)=(match (bif fj u then aP i.size (dL fr a) st else aw (dL fr a) st)with| .ok v _=>some v| .bad=>none):=by
     show(match P.underlying t,P.info? t with
      |some u,some i=>(match bk (fj u) (aP i.size (dL fr a) st) (aw (dL fr a) st)with| .ok v _=>some v| .bad=>none)
      |_,_=>none)=_
     rw[hu,hi];dsimp only;rw[aO];cases fj u<;>rfl
    generalize (bif fj u then aP i.size (dL fr a) st else aw (dL fr a) st)=rr at h e1;cases rr with
    |bad=>exact h.elim
    |ok v s=>
     obtain⟨vs,h1,h2⟩:=ih (show rK P fr st l fun vs=>k (v::vs)from h);exact⟨_,by rw[e,h1,e1],h2⟩
   ·exact h.elim
theorem Gx {fr:Fr}{st:St}{l:List ResultVar}{Q:CV->St->Prop}(h:Gy P fr st l Q):upon (tG P fr st l) Q:=by
 obtain⟨vs,h1,h2⟩:=Du h;unfold tG;rw[h1];cases vs with
 |nil=>exact h2
 |cons v vs=>cases vs with
  |nil=>exact h2
  |cons u vs=>exact h2
def Ni (P:Program)(l:List ResultVar)(r:Rs):OR:=match r with| .norm fr st=>tG P fr st l| .exit _ _ _=> .bad| .ret fr st=>tG P fr st l| .bad=> .bad
theorem LR {f:Nat}{args:List CV}{st:St}{Q:CV->St->Prop}(hI:I f args st=none)(h:aH P (ma P lvs I) (lvs f) f args st Q):ma P lvs I f args st Q:=by
 unfold aH at h
 split at h
 ·rename_i fn EJ hfn
  split at h
  ·rename_i c hb;obtain⟨r,⟨N,hN⟩,hr⟩:=Fg c h
   have e:∀m,N<=m->RF P lvs I (m+1) f args st=Ni P fn.results.toList r:=by
    intro m hm;unfold RF;simp only[vB,hI];unfold wA;have:=hN m hm;unfold RF at this;rw[EJ,aO,agl rfl,hfn];dsimp only;rw[hb];dsimp only;rw[this];cases r<;>rfl
   have fin:∀iK eY,Gy P iK eY fn.results.toList Q->(∀m,N<=m->RF P lvs I (m+1) f args st=tG P iK eY fn.results.toList)->ma P lvs I f args st Q:=by
    intro iK eY Mo he;have hu:=Gx Mo;cases Ky:tG P iK eY fn.results.toList with
    |bad=>rw[Ky]at hu;exact hu.elim
    |ok v nZ=>
     rw[Ky]at hu;refine⟨v,nZ,⟨N+1,fun m hm=> ?_⟩,hu⟩;obtain⟨m,rfl⟩:∃i,m=i+1:=⟨m-1,by omega⟩;rw[he m (by omega),Ky]
   cases r with
   |norm iK eY=>exact fin iK eY hr (fun m hm=>e m hm)
   |ret iK eY=>exact fin iK eY hr (fun m hm=>e m hm)
   |exit i iK eY=>exact(show False from hr).elim
   |bad=>exact(show False from hr).elim
  ·exact h.elim
 ·exact h.elim
end
