import Derived.Deep.Slices
import Derived.Deep.Fields
import Derived.ChangeSame
import Derived.ProofKit
import Derived.OpenShut
import Derived.Below
import Derived.Test.YtomffjeofpafnaaGreatDoorSndE
import Derived.Test.YtomffjeofpafnaaGreatDoorLawB
namespace Lim
open Go
noncomputable section
set_option linter.defProp false
def C0 (W:World)(b:Nat):Option (Array Value×TypeId×Nat×Nat):=match W.heap[b]? with
 |some (.cells c t (lo,hi))=>some (c,t,lo,hi)
 |_=>none
def AZ (W:World)(N:Nat):Ren:=λb=>if b<N then some (b,match C0 W b with|some (c,_)=>c.size|none=>0)else none
def xr (N:Nat):Value->CV
 | .int k n=>.int k n
 | .string s=>.str s.data.toList
 | .bool b=>.bool b
 | .slice none 0 0=>.ae
 | .slice (some ⟨b,off,none⟩) len cap=>if b<N then .slice b off len cap 0 else (if len=0/\cap=0 then .qd else .any)
 | .slice (some _) 0 0=>.qd
 |_=>.any
def OU (W:World)(N:Nat):PT qN:=λb=>(C0 W b).map λx=>.ro (x.1.toList.map (xr N)) (.cells x.1 x.2.1 (x.2.2.1,x.2.2.2))
def NV (W:World)(N:Nat):St:=⟨OU W N,N⟩
def yE (W:World)(N:Nat)(v:Value):VR (AZ W N) (xr N v) v:=by
 unfold xr
 split
 .exact .int _ _
 .rename_i s;have:=VR.str (ρ:=AZ W N) s.data.toList
  rwa [sP]at this
 .exact .bool _
 .exact .ae
 .split
  .rename_i b off len cap h;exact .slice b off len cap b _ (by unfold AZ;rw[aDy h])
  .split
   .rename_i h;obtain⟨rfl,rfl⟩:=h;exact .qd _
   .exact .any _
 .exact .qd _
 .exact .any _
def Lv {W:World}{b:Nat}{c:Array Value}{t:TypeId}{lo hi:Nat}(h:C0 W b=some (c,t,lo,hi)):W.heap[b]?=some (.cells c t (lo,hi)):=by
 unfold C0 at h
 split at h
 .rename_i e;rw[e];cases h;rfl
 .cases h
def CO {W:World}{N b:Nat}{blk:qN}(h:(NV W N).m.g b=some blk):b<W.heap.size/\∃c t lo hi,W.heap[b]?=some (.cells c t (lo,hi))/\C0 W b=some (c,t,lo,hi)/\blk=.ro (c.toList.map (xr N)) (.cells c t (lo,hi)):=by
 have h:OU W N b=some blk:=h;unfold OU at h;cases hr:C0 W b with
 |none=>rw[hr]at h;cases h
 |some x=>
  rw[hr]at h;obtain⟨c,t,lo,hi⟩:=x;have h1:=Lv hr;cases h;refine⟨?_,c,t,lo,hi,h1,rfl,rfl⟩;rcases aEG b W.heap.size with h2|h2
  .exact h2
  .rw[Array.getElem?_eq_none h2]at h1;cases h1
def Z0 (W:World)(N:Nat):WR (AZ W N) (NV W N) W:=by
 refine⟨λb blk r sz h1 h2=>?_,λb b' blk fc r sz NQ h1 h2 h3 h4=>?_,λb x h=>?_⟩
 .obtain⟨_,c,t,lo,hi,e1,e2,rfl⟩:=CO h1;unfold AZ at h2
  split at h2
  .rw[e2]at h2;cases h2;refine⟨_,e1,.ro _ c t lo hi rq ⟨rq,λi v v' a b=>?_⟩⟩;rw[aEf]at a;rw[aFe]at b
   split at b
   .rw[b]at a;cases a;exact yE W N v'
   .cases b
  .cases h2
 .unfold AZ at h3 h4
  split at h3
  .split at h4
   .cases h3;cases h4;rfl
   .cases h4
  .cases h3
 .unfold AZ at h;show b<N
  split at h
  .assumption
  .cases h
def Le {W:World}{N:Nat}(h:W.heap.size<=N):eM (NV W N):=λb hb=>by
 cases hm:(NV W N).m.g b with
 |none=>rfl
 |some blk=>have:=(CO hm).1;have:N<=b:=hb;omega
def xv (W:World)(N b:Nat):List CV:=match C0 W b with|some x=>x.1.toList.map (xr N)|none=>[]
def yS {W:World}{N b o:Nat}{v:Value}(h:W.cell? ⟨b,o,none⟩=some v):∃ob,(NV W N).m.g b=some (.ro (xv W N b) ob)/\(xv W N b)[o]?=some (xr N v):=by
 unfold World.cell? at h;cases ho:W.heap[b]? with
 |none=>simp[ho]at h
 |some x=>
  cases x with
  |cells c t fr=>
   obtain⟨lo,hi⟩:=fr;have hr:C0 W b=some (c,t,lo,hi):=by unfold C0;rw[ho]
   refine⟨.cells c t (lo,hi),?_,?_⟩
   .show OU W N b=_;unfold OU xv;rw[hr];rfl
   .unfold xv;rw[hr];simp only[ho]at h;rw[aDv wI]at h;simp only[aEf,Array.getElem?_toList];rw[h];rfl
  |_=>simp[ho]at h
open Go Go.RowKit Go.ChangeShapes Go.WideShapes Go.Deep Go.Proofs
set_option maxRecDepth 100000
section
variable {H:Type} {enc:TypeId×Value->H} {P:Program} {w:World} {base:Nat} {spare:Nat->Bool} {held:Bool}
def vN {t e:TypeId}{fs:Array Field}{fuel:Nat}{cs:List Value}{x:DataW H×List MemPlace}(ht:P.underlying t=some (.slice e))(he:P.underlying e=some (.struct fs))
 (iY:oneCellFields P fs=true) (hC:P.cellsOf e=fs.size) (h:DataW.trod enc P w base spare held fuel t cs=some x):
 (cs=[.slice none 0 0]/\x=(.nil,[]))\/
 ∃(a:Addr) (len cap m:Nat) (D:Nat->DataW H) (Pl:Nat->List MemPlace),cs=[.slice (some a) len cap]/\base<=a.block/\len<=cap/\cap<=maxLen/\m=(if spare a.block then cap else len)/\
  x=(.slice ((List.range len).map D) ((List.range (m-len)).map λj=>D (len+j)),MemPlace.row a (m*fs.size)++(List.range m).flatMap Pl)/\
  ∀i,i<m->∃(ys:List (DataW H×List MemPlace)) (n:Nat),D i=.agg (ys.map (·.1))/\Pl i=ys.flatMap (·.2)/\ys.length=fs.size/\
   ∀(j:Nat) (f:Field),fs[j]?=some f->∃(v:Value) (y:DataW H×List MemPlace),w.cell? (a.add (i*fs.size+j))=some v/\ys[j]?=some y/\DataW.trod enc P w base spare held n f.type [v]=some y:=by
 rcases open_slice ht h with h0|⟨a,len,cap,m,n,D,Pl,uQ,hb,hl,hm,uj,hx,hi⟩
 .exact .inl h0
 .refine .inr ⟨a,len,cap,m,D,Pl,uQ,hb,hl,hm,uj,by rw[hC]at hx;exact hx,λi him=>?_⟩;obtain⟨cs',hc,wH⟩:=hi i him;rw[hC]at hc;obtain⟨ys,n',hn',hy,hlen,hyl,hf⟩:=DataW.trod_struct he wH;obtain⟨_,qC,mM⟩:=World.cells?_some hc;simp only[aFl]at hy;refine⟨ys,n',hy.1,hy.2,hyl,λj f hj=>?_⟩;obtain⟨ho,hk⟩:=hone_of iY j f hj;have YV:=(aEh.1 hj).1;have sh:=mM j YV;have hv:cs'[j]?=some (cs'[j]' pX):=aDu pX;have h1:=hf j f hj;rw[ho,hk]at h1
  have Po:(cs'.drop j).take 1=[cs'[j]' pX]:=by
   rw[aDN pX]
   rfl
  rw[Po]at h1;have hys:ys[j]?=some (ys[j]' pX):=aDu pX;refine⟨_,_,?_,hys,h1.trans hys⟩;rw[<-Go.Deep.add_add,sh,hv]
end
def ED {H:Type}{P:Program}{e:TypeId}{d:DataW H}{l:List (DataW H)}(hd:d∈l){n:Nat}(hn:n∈DataW.weights P e d):n∈DataW.weightsAll P e l:=by
 induction l with
 |nil=>cases hd
 |cons x r ih=>
  simp only[DataW.weightsAll,aDB];rcases aDs.1 hd with rfl|h
  .exact .inl hn
  .exact .inr (ih h)
structure Left4 (W w':World):Prop where
 os:w'.os=W.os
 output:w'.output=W.output
 size:W.heap.size<=w'.heap.size
 block:∀k,k<W.heap.size->w'.heap[k]?=W.heap[k]?
def Left4.frame {W w':World}(h:Left4 W w')(may:MemPlace->Prop):W.keptBut w' may:=by
 refine⟨h.os,h.output,λi hi=>?_⟩;rw[h.block i hi]
 split<;>simp_all
def Left4.below {W w':World}(h:Left4 W w'):Below W.heap.size W {w' with tape:=W.tape}:=⟨h.os,rfl,h.output,h.size,h.block⟩
def Left4.trod {H:Type}{enc:TypeId×Value->H}{P:Program}{t:TypeId}(hl:laidOutB P=true)(hr:P.readableRec t=true)(jB:t<P.types.size){W W':World}{v:Value}{d:DataW H}{ps:List MemPlace}
 (h:DataW.Trod enc P W 0 (λ_=>true) true t v d ps) (hb:Left4 W W') (hlt:∀x∈ps,x.block<W.heap.size):
 DataW.Trod enc P W' 0 (λb=>decide (b<W.heap.size)) true t v d ps:=
 WideElems.Trod_stays hl hr jB h (λx hx=>by
  have:=hb.below.same (hlt x hx);cases x<;>exact this) (λx hx=>by simpa using hlt x hx)
def NA {f:Nat}{args:List CV}{WX:Array Value}{W:World}(hI:I0 f args (NV W W.heap.size)=none)(ha:eF (AZ W W.heap.size) args WX.toList)(h:R f args (NV W W.heap.size) λy s=>y=.bool true/\Kp [] (NV W W.heap.size) s):
 Calls Tryz.prog f WX W λe w'=>e=.returned (.bool true)/\Left4 W w':=by
 obtain⟨y,st',⟨_,hc⟩,rfl,hk⟩:=oU.Xs AA Ri hI h;refine(hc _ W WX (Z0 W _) ha).mono ?_;rintro e w' ⟨v',ρ',rfl,Es,Jh⟩;cases Es;refine⟨rfl,Jh.os,Jh.output,Jh.size,λk hlt=>?_⟩
 by_cases hx:∃b blk sz,(NV W W.heap.size).m.g b=some blk/\AZ W W.heap.size b=some (k,sz)
 .obtain⟨b,blk,sz,h1,h2⟩:=hx;have hb:=(CO h1).1;obtain⟨_,c,t,lo,hi,e1,_,rfl⟩:=CO h1;obtain⟨o',g1,g2⟩:=Jh.wr.at' b _ k sz ((hk.keep b hb rq).trans h1) (Jh.ext _ _ h2);unfold AZ at h2;rw[aDy hb]at h2;simp only[aER,aFl]at h2;obtain⟨rfl,_⟩:=h2;cases g2;rw[g1,e1]
 .exact Jh.kept k hlt λb blk sz h1 h2=>hx ⟨b,blk,sz,h1,h2⟩
def QZ {α:Type}{P:Nat->α->Prop}:∀n,(∀k,k<n->∃x,P k x)->∃S:List α,S.length=n/\∀k (h:k<S.length),P k S[k]:=by
 intro n
 induction n with
 |zero=>intro _;exact⟨[],rfl,λk h=>Wz⟩
 |succ n ih=>
  intro h;obtain⟨S,h1,h2⟩:=ih λk hk=>h k pX;obtain⟨x,hx⟩:=h n pX;refine⟨S++[x],abV,λk hk=>?_⟩
  by_cases qA:k<S.length
  .rw[List.getElem_append_left qA];exact h2 k qA
  .have:k=n:=by simp at hk;omega
   subst this;subst h1
   simpa using hx
open Go Go.RowKit Go.ChangeShapes Go.WideShapes Go.Deep Go.Proofs
section
variable {H:Type} {enc:TypeId×Value->H} {W:World} {fuel:Nat} {v:Value} {x:DataW H×List MemPlace}
def Hj (b off i:Nat):(⟨b,off,none⟩:Addr).add i=⟨b,off+i,none⟩:=by unfold Addr.add;split<;>simp_all
def Hb {b o:Nat}{v:Value}{x:CV}(h:W.cell? ⟨b,o,none⟩=some v)(e:xr W.heap.size v=x):(xv W W.heap.size b)[o]?=some x:=by
 obtain⟨_,_,h2⟩:=yS (N:=W.heap.size) h;rw[h2,e]
def NP {l row:List CV}{p:Nat}(h0:0<row.length)(h:∀o x,row[o]?=some x->l[p+o]?=some x):p+row.length<=l.length/\(l.drop p).take row.length=row:=by
 have h1:=λo ho=>h o _ (aDu ho);have h2:=h1 (row.length-1) pX;obtain⟨h3,_⟩:=aDD.1 h2;refine⟨pX,List.ext_getElem AI λo a b=>?_⟩;have h4:=h1 o b;rw[List.getElem_take,List.getElem_drop];obtain⟨_,h5⟩:=aDD.1 h4;exact h5
def uV (W:World)(v:Value):Prop:=v=.slice none 0 0\/∃b off len cap,v=.slice (some ⟨b,off,none⟩) len cap/\∃row cells,W.shape? b=some (row,cells)
def uV.cv {a:Addr}{len cap:Nat}(h:uV W (.slice (some a) len cap)):∃b off,a=⟨b,off,none⟩/\b<W.heap.size/\xr W.heap.size (.slice (some a) len cap)=.slice b off len cap 0:=by
 rcases h with h|⟨b,off,acM,fm,h,row,cells,hs⟩
 .cases h
 .cases h
  have hb:b<W.heap.size:=by
   rcases aEG b W.heap.size with h|h
   .exact h
   .simp[World.shape?,Array.getElem?_eq_none h]at hs
  exact⟨b,off,rfl,hb,by simp[xr,hb]⟩
def QV (hp:uV W v)(hf:DataW.trod enc Tryz.prog W 0 (λ_=>true) true fuel 22 [v]=some x)(wG:∀n∈DataW.weights Tryz.prog 22 x.1,n<=140737488351232):
 ∃S:List oi,xA (NV W W.heap.size) (xr W.heap.size v) S/\S.length<=9223372036854775807/\∀p∈S,p.size<=281474976710656:=by
 rcases vN Tryz.underlying22 Tryz.underlying31 yN yN hf with⟨uQ,_⟩|⟨a,len,cap,m,D,Pl,uQ,_,hl,hm,hme,hx,hi⟩
 .have hv:v=.slice none 0 0:=by simpa using uQ
  subst hv;exact⟨[],.inl ⟨rfl,rfl⟩,rq,rq⟩
 .have hv:v=.slice (some a) len cap:=by simpa using uQ
  subst hv;have hmc:m=cap:=hme;subst hmc;unfold maxLen at hm;obtain⟨b,off,rfl,hb,e⟩:=hp.cv
  obtain⟨S,hlen,mM⟩:=QZ (P:=λk (p:oi)=>W.cell? ⟨b,off+k*4,none⟩=some (.int .i64 p.kind)/\W.cell? ⟨b,off+k*4+1,none⟩=some (.string (gI p.key))/\W.cell? ⟨b,off+k*4+2,none⟩=some (.string (gI p.val))/\W.cell? ⟨b,off+k*4+3,none⟩=some (.int .i64 p.many)/\p.size<=281474976710656) len λk hk=>by
   obtain⟨ys,n,hD,_,hyl,hff⟩:=hi k pX;obtain⟨v0,y0,c0,x0,t0⟩:=hff 0 _ rfl;obtain⟨v1,y1,c1,x1,t1⟩:=hff 1 _ rfl;obtain⟨v2,y2,c2,x2,t2⟩:=hff 2 _ rfl;obtain⟨v3,y3,c3,x3,t3⟩:=hff 3 _ rfl;obtain⟨kd,e0,z0,_⟩:=DataW.trod_int Tryz.underlying3 t0;obtain⟨ky,e1,z1,_⟩:=DataW.trod_string Tryz.underlying9 t1;obtain⟨vl,e2,z2,_⟩:=DataW.trod_string Tryz.underlying9 t2;obtain⟨mn,e3,z3,_⟩:=DataW.trod_int Tryz.underlying3 t3;simp only[aEX,and_true]at e0 e1 e2 e3;subst e0 e1 e2 e3;simp only[Hj,<-Nat.add_assoc]at c0 c1 c2 c3;refine⟨⟨kd,ky.data.toList,vl.data.toList,mn⟩,c0,?_,?_,c3,?_⟩
   .rw[sP];exact c1
   .rw[sP];exact c2
   .have kX:∀n,n∈DataW.weights Tryz.prog 31 (D k)->n∈DataW.weights Tryz.prog 22 x.1:=λn hn=>by
     rw[hx];simp only[DataW.weights,Tryz.underlying22,aDs,aDB];right;left;exact ED (aDR.2 ⟨k,List.mem_range.2 hk,rfl⟩) hn
    have hw:DataW.weights Tryz.prog 31 (D k)=DataW.weightsEach Tryz.prog [3,9,9,3] (ys.map (·.1)):=by
     rw[hD];simp[DataW.weights,Tryz.underlying31]
    rw[hw]at kX;have b1:=wG _ (kX ky.data.toList.length (DataW.weights_mem_each (j:=1) (t:=9) rfl (by rw[aEf,x1];rfl) _ (by rw[z1];simp[DataW.weights])));have b2:=wG _ (kX vl.data.toList.length (DataW.weights_mem_each (j:=2) (t:=9) rfl (by rw[aEf,x2];rfl) _ (by rw[z2];simp[DataW.weights])));unfold oi.size;dsimp only;omega
  refine⟨S,.inr ⟨b,off,m,by rw[e,hlen],hb,λi ff=>?_⟩,pX,λp hp=>?_⟩
  .obtain⟨h0,h1,h2,h3,_⟩:=mM i ff;obtain⟨ob,g1,_⟩:=yS (N:=W.heap.size) h0;have Tr:∀s:List UInt8,xr W.heap.size (.string (gI s))=.str s:=λs=>by simp[xr,gI]
   refine⟨_,ob,g1,NP (row:=QW S[i]) (by simp[QW]) λj x hj=>?_⟩;rcases j with _|_|_|_|j
   .cases hj;exact Hb h0 rfl
   .cases hj;exact Hb h1 (Tr _)
   .cases hj;exact Hb h2 (Tr _)
   .cases hj;exact Hb h3 rfl
   .cases hj
  .obtain⟨i,ff,rfl⟩:=aEv hp;exact(mM i ff).2.2.2.2
def XL (hp:uV W v)(hf:DataW.trod enc Tryz.prog W 0 (λ_=>true) true fuel 53 [v]=some x)(wG:∀n∈DataW.weights Tryz.prog 53 x.1,n<=140737488351232):
 ∃L:List Bool,kD (NV W W.heap.size) [] (xr W.heap.size v) L/\L.length<=140737488355328:=by
 rcases open_slice Tryz.underlying53 hf with⟨uQ,_⟩|⟨a,len,cap,m,n,D,Pl,uQ,_,hl,hm,hme,hx,hi⟩
 .have hv:v=.slice none 0 0:=by simpa using uQ
  subst hv;exact⟨[],.inl ⟨rfl,rfl⟩,rq⟩
 .have hv:v=.slice (some a) len cap:=by simpa using uQ
  subst hv;have hmc:m=cap:=hme;subst hmc;obtain⟨b,off,rfl,hb,e⟩:=hp.cv;have c4:Tryz.prog.cellsOf 4=1:=yN
  rw[c4]at hi
  obtain⟨L,hlen,mM⟩:=QZ (P:=λk (p:Bool)=>W.cell? ⟨b,off+k,none⟩=some (.bool p)) len λk hk=>by
   obtain⟨cs,hc,ht⟩:=hi k pX;obtain⟨bv,rfl,_⟩:=DataW.trod_bool Tryz.underlying4 ht;obtain⟨_,qC,mM⟩:=World.cells?_some hc;have:=mM 0 pX;simp only[Hj,aEQ,aEb,aDo]at this;exact⟨bv,this⟩
  refine⟨L,.inr ⟨b,off,m,by rw[e,hlen],?_⟩,?_⟩
  .by_cases h0:L=[]
   .exact .inl h0
   .have hp:=aFg.2 h0;obtain⟨ob,g1,_⟩:=yS (N:=W.heap.size) (mM 0 hp)
    have ht:=NP (l:=xv W W.heap.size b) (row:=rb L) (p:=off) WM λj x hj=>by
     simp only[aEf,Option.map_eq_some_iff]at hj;obtain⟨q,hq,rfl⟩:=hj;obtain⟨hj,rfl⟩:=aDD.1 hq;exact Hb (mM j hj) rfl
    rw[show(rb L).length=L.length by simp]at ht;exact .inr ⟨rq,hb,_,ob,g1,ht⟩
  .have hbt:Tryz.prog.bytesOf 4=1:=by kernel_rfl
   have:=wG ((len+(m-len))*1) (by
    rw[hx];simp only[DataW.weights,Tryz.underlying53,aEt,List.length_range,hbt,aDs,true_or])
   omega
end
def walk5 {H:Type}{enc:TypeId×Value->H}{W:World}{f0 f1 f3:Nat}{v0 v1 v3:Value}{x0 x1 x3:DataW H×List MemPlace}(p0:uV W v0)(p1:uV W v1)(p3:uV W v3)
 (h0:DataW.trod enc Tryz.prog W 0 (λ_=>true) true f0 22 [v0]=some x0) (w0:∀n∈DataW.weights Tryz.prog 22 x0.1,n<=140737488351232)
 (h1:DataW.trod enc Tryz.prog W 0 (λ_=>true) true f1 22 [v1]=some x1) (w1:∀n∈DataW.weights Tryz.prog 22 x1.1,n<=140737488351232)
 (h3:DataW.trod enc Tryz.prog W 0 (λ_=>true) true f3 53 [v3]=some x3) (w3:∀n∈DataW.weights Tryz.prog 53 x3.1,n<=140737488351232) (n:Int):
 Calls Tryz.prog 5 #[v0,v1,.int .i64 n,v3] W λe w'=>e=.returned (.bool true)/\Left4 W w':=by
 obtain⟨S,hA,hl,hsz⟩:=QV p0 h0 w0;obtain⟨S',HI,Cf,X8⟩:=QV p1 h1 w1;obtain⟨L,hk,Bg⟩:=XL p3 h3 w3;exact NA rfl (eF.cons (yE _ _ _) (eF.cons (yE _ _ _) (eF.cons (.int _ _) (eF.cons (yE _ _ _) (eF.nil _))))) (QK hA HI hk (Le (aDt _)) hl hsz Cf X8 Bg n)
