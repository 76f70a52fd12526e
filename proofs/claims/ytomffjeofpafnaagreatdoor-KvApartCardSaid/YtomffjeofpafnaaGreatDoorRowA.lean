import Derived.Deep.Slices
import Derived.Deep.Fields
import Derived.ChangeSame
import Derived.ProofKit
import Derived.OpenShut
import Derived.Below
import Derived.Test.YtomffjeofpafnaaGreatDoorSndE
import Derived.Test.YtomffjeofpafnaaGreatDoorKv
namespace Lim
open Go
noncomputable section
set_option linter.defProp false
def DR (W:World)(b:Nat):Option (Array Value×TypeId×Nat×Nat):=match W.heap[b]? with
 |some (.cells c t (lo,hi))=>some (c,t,lo,hi)
 |_=>none
def BE (W:World)(N:Nat):Ren:=λb=>if b<N then some (b,match DR W b with|some (c,_)=>c.size|none=>0)else none
def uA (N:Nat):Value->CV
 | .int k n=>.int k n
 | .string s=>.str s.data.toList
 | .bool b=>.bool b
 | .slice none 0 0=>.ae
 | .slice (some ⟨b,off,none⟩) len cap=>if b<N then .slice b off len cap 0 else (if len=0/\cap=0 then .mQ else .any)
 | .slice (some _) 0 0=>.mQ
 |_=>.any
def Qx (W:World)(N:Nat):PT qB:=λb=>(DR W b).map λx=>.ro (x.1.toList.map (uA N)) (.cells x.1 x.2.1 (x.2.2.1,x.2.2.2))
def Oi (W:World)(N:Nat):St:=⟨Qx W N,N⟩
def L8 (W:World)(N:Nat)(v:Value):VR (BE W N) (uA N v) v:=by
 unfold uA
 split
 .exact .int _ _
 .rename_i s;have:=VR.str (ρ:=BE W N) s.data.toList
  rwa [pR]at this
 .exact .bool _
 .exact .ae
 .split
  .rename_i b off len cap h;exact .slice b off len cap b _ (by unfold BE;rw[aEW h])
  .split
   .rename_i h;obtain⟨rfl,rfl⟩:=h;exact .mQ _
   .exact .any _
 .exact .mQ _
 .exact .any _
def MJ {W:World}{b:Nat}{c:Array Value}{t:TypeId}{lo hi:Nat}(h:DR W b=some (c,t,lo,hi)):W.heap[b]?=some (.cells c t (lo,hi)):=by
 unfold DR at h
 split at h
 .rename_i e;rw[e];cases h;rfl
 .cases h
def DF {W:World}{N b:Nat}{blk:qB}(h:(Oi W N).m.g b=some blk):b<W.heap.size/\∃c t lo hi,W.heap[b]?=some (.cells c t (lo,hi))/\DR W b=some (c,t,lo,hi)/\blk=.ro (c.toList.map (uA N)) (.cells c t (lo,hi)):=by
 have h:Qx W N b=some blk:=h;unfold Qx at h;cases hr:DR W b with
 |none=>rw[hr]at h;cases h
 |some x=>
  rw[hr]at h;obtain⟨c,t,lo,hi⟩:=x;have h1:=MJ hr;cases h;refine⟨?_,c,t,lo,hi,h1,rfl,rfl⟩;rcases aGh b W.heap.size with h2|h2
  .exact h2
  .rw[Array.getElem?_eq_none h2]at h1;cases h1
def abp (W:World)(N:Nat):WR (BE W N) (Oi W N) W:=by
 refine⟨λb blk r sz h1 h2=>?_,λb b' blk fq r sz Pq h1 h2 h3 h4=>?_,λb x h=>?_⟩
 .obtain⟨_,c,t,lo,hi,e1,e2,rfl⟩:=DF h1;unfold BE at h2
  split at h2
  .rw[e2]at h2;cases h2;refine⟨_,e1,.ro _ c t lo hi uG ⟨uG,λi v v' a b=>?_⟩⟩;rw[aFA]at a;rw[aGE]at b
   split at b
   .rw[b]at a;cases a;exact L8 W N v'
   .cases b
  .cases h2
 .unfold BE at h3 h4
  split at h3
  .split at h4
   .cases h3;cases h4;rfl
   .cases h4
  .cases h3
 .unfold BE at h;show b<N
  split at h
  .assumption
  .cases h
def My {W:World}{N:Nat}(h:W.heap.size<=N):eH (Oi W N):=λb hb=>by
 cases hm:(Oi W N).m.g b with
 |none=>rfl
 |some blk=>have:=(DF hm).1;have:N<=b:=hb;omega
def A7 (W:World)(N b:Nat):List CV:=match DR W b with|some x=>x.1.toList.map (uA N)|none=>[]
def zG {W:World}{N b o:Nat}{v:Value}(h:W.cell? ⟨b,o,none⟩=some v):∃ob,(Oi W N).m.g b=some (.ro (A7 W N b) ob)/\(A7 W N b)[o]?=some (uA N v):=by
 unfold World.cell? at h;cases ho:W.heap[b]? with
 |none=>simp[ho]at h
 |some x=>
  cases x with
  |cells c t fr=>
   obtain⟨lo,hi⟩:=fr;have hr:DR W b=some (c,t,lo,hi):=by unfold DR;rw[ho]
   refine⟨.cells c t (lo,hi),?_,?_⟩
   .show Qx W N b=_;unfold Qx A7;rw[hr];rfl
   .unfold A7;rw[hr];simp only[ho]at h;rw[aET u7]at h;simp only[aFA,Array.getElem?_toList];rw[h];rfl
  |_=>simp[ho]at h
open Go Go.RowKit Go.ChangeShapes Go.WideShapes Go.Deep Go.Proofs
set_option maxRecDepth 100000
section
variable {H:Type} {enc:TypeId×Value->H} {P:Program} {w:World} {base:Nat} {spare:Nat->Bool} {held:Bool}
def pk {t e:TypeId}{fs:Array Field}{fuel:Nat}{cs:List Value}{x:DataW H×List MemPlace}(ht:P.underlying t=some (.slice e))(he:P.underlying e=some (.struct fs))
 (kz:oneCellFields P fs=true) (hC:P.cellsOf e=fs.size) (h:DataW.trod enc P w base spare held fuel t cs=some x):
 (cs=[.slice none 0 0]/\x=(.nil,[]))\/
 ∃(a:Addr) (len cap m:Nat) (D:Nat->DataW H) (Pl:Nat->List MemPlace),cs=[.slice (some a) len cap]/\base<=a.block/\len<=cap/\cap<=maxLen/\m=(if spare a.block then cap else len)/\
  x=(.slice ((List.range len).map D) ((List.range (m-len)).map λj=>D (len+j)),MemPlace.row a (m*fs.size)++(List.range m).flatMap Pl)/\
  ∀i,i<m->∃(ys:List (DataW H×List MemPlace)) (n:Nat),D i=.agg (ys.map (·.1))/\Pl i=ys.flatMap (·.2)/\ys.length=fs.size/\
   ∀(j:Nat) (f:Field),fs[j]?=some f->∃(v:Value) (y:DataW H×List MemPlace),w.cell? (a.add (i*fs.size+j))=some v/\ys[j]?=some y/\DataW.trod enc P w base spare held n f.type [v]=some y:=by
 rcases open_slice ht h with h0|⟨a,len,cap,m,n,D,Pl,hcs,hb,hl,hm,uQ,hx,hi⟩
 .exact .inl h0
 .refine .inr ⟨a,len,cap,m,D,Pl,hcs,hb,hl,hm,uQ,by rw[hC]at hx;exact hx,λi him=>?_⟩;obtain⟨cs',hc,AE⟩:=hi i him;rw[hC]at hc;obtain⟨ys,n',hn',hy,hlen,hyl,hf⟩:=DataW.trod_struct he AE;obtain⟨_,oO,lL⟩:=World.cells?_some hc;simp only[aGA]at hy;refine⟨ys,n',hy.1,hy.2,hyl,λj f hj=>?_⟩;obtain⟨ho,hk⟩:=hone_of kz j f hj;have hjl:=(aFB.1 hj).1;have sU:=lL j hjl;have hv:cs'[j]?=some (cs'[j]' qE):=aES qE;have h1:=hf j f hj;rw[ho,hk]at h1
  have Q0:(cs'.drop j).take 1=[cs'[j]' qE]:=by
   rw[aFk qE]
   rfl
  rw[Q0]at h1;have hys:ys[j]?=some (ys[j]' qE):=aES qE;refine⟨_,_,?_,hys,h1.trans hys⟩;rw[<-Go.Deep.add_add,sU,hv]
end
def yb {H:Type}{P:Program}{e:TypeId}{d:DataW H}{l:List (DataW H)}(hd:d∈l){n:Nat}(hn:n∈DataW.weights P e d):n∈DataW.weightsAll P e l:=by
 induction l with
 |nil=>cases hd
 |cons x r ih=>
  simp only[DataW.weightsAll,aEY];rcases aEP.1 hd with rfl|h
  .exact .inl hn
  .exact .inr (ih h)
structure Left4 (W w':World):Prop where
 os:w'.os=W.os
 output:w'.output=W.output
 size:W.heap.size<=w'.heap.size
 block:∀k,k<W.heap.size->w'.heap[k]?=W.heap[k]?
def Left4.frame {W w':World}(h:Left4 W w')(may:MemPlace->Prop):W.keptBut w' may:=by
 refine⟨h.os,h.output,λi hi=>?_⟩;rw[h.block i hi]
 split<;>simp_all
def Left4.below {W w':World}(h:Left4 W w'):Below W.heap.size W {w' with tape:=W.tape}:=⟨h.os,rfl,h.output,h.size,h.block⟩
def Left4.trod {H:Type}{enc:TypeId×Value->H}{P:Program}{t:TypeId}(hl:laidOutB P=true)(hr:P.readableRec t=true)(gG:t<P.types.size){W W':World}{v:Value}{d:DataW H}{ps:List MemPlace}
 (h:DataW.Trod enc P W 0 (λ_=>true) true t v d ps) (hb:Left4 W W') (hlt:∀x∈ps,x.block<W.heap.size):
 DataW.Trod enc P W' 0 (λb=>decide (b<W.heap.size)) true t v d ps:=
 WideElems.Trod_stays hl hr gG h (λx hx=>by
  have:=hb.below.same (hlt x hx);cases x<;>exact this) (λx hx=>by simpa using hlt x hx)
def Pe {f:Nat}{args:List CV}{Ys:Array Value}{W:World}(hI:I0 f args (Oi W W.heap.size)=none)(ha:eK (BE W W.heap.size) args Ys.toList)(h:R f args (Oi W W.heap.size) λy s=>y=.bool true/\Kp [] (Oi W W.heap.size) s):
 Calls Tryz.prog f Ys W λe w'=>e=.returned (.bool true)/\Left4 W w':=by
 obtain⟨y,st',⟨_,hc⟩,rfl,hk⟩:=pB.YL Bh S8 hI h;refine(hc _ W Ys (abp W _) ha).mono ?_;rintro e w' ⟨v',ρ',rfl,zo,Kc⟩;cases zo;refine⟨rfl,Kc.os,Kc.output,Kc.size,λk hlt=>?_⟩
 by_cases hx:∃b blk sz,(Oi W W.heap.size).m.g b=some blk/\BE W W.heap.size b=some (k,sz)
 .obtain⟨b,blk,sz,h1,h2⟩:=hx;have hb:=(DF h1).1;obtain⟨_,c,t,lo,hi,e1,_,rfl⟩:=DF h1;obtain⟨o',g1,g2⟩:=Kc.wr.at' b _ k sz ((hk.keep b hb uG).trans h1) (Kc.ext _ _ h2);unfold BE at h2;rw[aEW hb]at h2;simp only[aGp,aGA]at h2;obtain⟨rfl,_⟩:=h2;cases g2;rw[g1,e1]
 .exact Kc.kept k hlt λb blk sz h1 h2=>hx ⟨b,blk,sz,h1,h2⟩
def FM {W:World}{a:Addr}{len cap:Nat}(hc:∀j,j<cap->∃k,0<k/\∃v,W.cell? (a.add (j*k))=some v)(hl:len<=cap):
 (uA W.heap.size (.slice (some a) len cap)=.mQ/\len=0)\/∃b off,a=⟨b,off,none⟩/\b<W.heap.size/\uA W.heap.size (.slice (some a) len cap)=.slice b off len cap 0:=by
 obtain⟨b,off,sp⟩:=a
 have hb:0<cap->sp=none/\b<W.heap.size:=λh0=>by
  obtain⟨k,_,v,h⟩:=hc 0 h0;have h1:=World.cell?_spot h;have h2:sp=none:=by simpa[Addr.add]using h1
  subst h2;refine⟨rfl,?_⟩;rcases aGh b W.heap.size with h3|h3
  .exact h3
  .simp[World.cell?,Addr.add,Array.getElem?_eq_none h3]at h
 cases sp with
 |none=>
  by_cases h3:b<W.heap.size
  .exact .inr ⟨b,off,rfl,h3,by simp[uA,h3]⟩
  .have h0:cap=0:=by
    rcases Nat.eq_zero_or_pos cap with h|h
    .exact h
    .exact absurd (hb h).2 h3
   have:len=0:=qE
   subst h0 this;exact .inl ⟨by simp[uA,h3],rfl⟩
 |some x=>
  have h0:cap=0:=by
   rcases Nat.eq_zero_or_pos cap with h|h
   .exact h
   .cases (hb h).1
  have:len=0:=qE
  subst h0 this;exact .inl ⟨rfl,rfl⟩
def SP {α:Type}{P:Nat->α->Prop}:∀n,(∀k,k<n->∃x,P k x)->∃S:List α,S.length=n/\∀k (h:k<S.length),P k S[k]:=by
 intro n
 induction n with
 |zero=>intro _;exact⟨[],rfl,λk h=>Pa⟩
 |succ n ih=>
  intro h;obtain⟨S,h1,h2⟩:=ih λk hk=>h k qE;obtain⟨x,hx⟩:=h n qE;refine⟨S++[x],by simp[h1],λk hk=>?_⟩
  by_cases rO:k<S.length
  .rw[List.getElem_append_left rO];exact h2 k rO
  .have:k=n:=by simp at hk;omega
   subst this;subst h1
   simpa using hx
open Go Go.RowKit Go.ChangeShapes Go.WideShapes Go.Deep Go.Proofs
section
variable {H:Type} {enc:TypeId×Value->H} {W:World} {fuel:Nat} {v:Value} {x:DataW H×List MemPlace}
def abo {ρ:Ren}{s:List CV}{l:List Value}(h:eK ρ s l):VR ρ (.agg s) (.agg l.toArray):=.agg s l h.len h.at'
def HW (b off i:Nat):(⟨b,off,none⟩:Addr).add i=⟨b,off+i,none⟩:=by unfold Addr.add;split<;>simp_all
def Md {b o:Nat}{v:Value}{x:CV}(h:W.cell? ⟨b,o,none⟩=some v)(e:uA W.heap.size v=x):(A7 W W.heap.size b)[o]?=some x:=by
 obtain⟨_,_,h2⟩:=zG (N:=W.heap.size) h;rw[h2,e]
def SC (hf:DataW.trod enc Tryz.prog W 0 (λ_=>true) true fuel 75 [v]=some x)(hwt:∀n∈DataW.weights Tryz.prog 75 x.1,n<=140737488351232):
 ∃cs:List ChM,Bm (Oi W W.heap.size) (uA W.heap.size v) cs/\cs.length<=140737488355328/\∀c∈cs,c.size<=281474976710656:=by
 rcases pk Tryz.underlying75 Tryz.underlying65 vN vN hf with⟨hcs,_⟩|⟨a,len,cap,m,D,Pl,hcs,_,hl,hm,hme,hx,hi⟩
 .have hv:v=.slice none 0 0:=by simpa using hcs
  subst hv;exact⟨[],.inl ⟨.inl rfl,rfl⟩,uG,uG⟩
 .have hv:v=.slice (some a) len cap:=by simpa using hcs
  subst hv;have hmc:m=cap:=hme;subst hmc
  obtain⟨cs,hlen,lL⟩:=SP (P:=λk (c:ChM)=>W.cell? (a.add (k*4+0))=some (.int .i64 c.sp)/\W.cell? (a.add (k*4+1))=some (.string (strB c.key))/\W.cell? (a.add (k*4+2))=some (.string (strB c.val))/\W.cell? (a.add (k*4+3))=some (.bool c.gone)/\c.size<=281474976710656) len λk hk=>by
   obtain⟨ys,n,hD,_,hyl,J0⟩:=hi k qE;obtain⟨v0,y0,c0,x0,t0⟩:=J0 0 _ rfl;obtain⟨v1,y1,c1,x1,t1⟩:=J0 1 _ rfl;obtain⟨v2,y2,c2,x2,t2⟩:=J0 2 _ rfl;obtain⟨v3,y3,c3,x3,t3⟩:=J0 3 _ rfl;obtain⟨sp,e0,z0,_⟩:=DataW.trod_int Tryz.underlying3 t0;obtain⟨ky,e1,z1,_⟩:=DataW.trod_string Tryz.underlying9 t1;obtain⟨vl,e2,z2,_⟩:=DataW.trod_string Tryz.underlying9 t2;obtain⟨go,e3,z3⟩:=DataW.trod_bool Tryz.underlying4 t3;simp only[aGn,and_true]at e0 e1 e2 e3;subst e0 e1 e2 e3;refine⟨⟨sp,ky.data.toList,vl.data.toList,go⟩,c0,?_,?_,c3,?_⟩
   .rw[pR];exact c1
   .rw[pR];exact c2
   .have jB:∀n,n∈DataW.weights Tryz.prog 65 (D k)->n∈DataW.weights Tryz.prog 75 x.1:=λn hn=>by
     rw[hx];simp only[DataW.weights,Tryz.underlying75,aEP,aEY];right;left;exact yb (aFq.2 ⟨k,List.mem_range.2 hk,rfl⟩) hn
    have hw:DataW.weights Tryz.prog 65 (D k)=DataW.weightsEach Tryz.prog [3,9,9,4] (ys.map (·.1)):=by
     rw[hD];simp[DataW.weights,Tryz.underlying65]
    rw[hw]at jB;have b1:=hwt _ (jB ky.data.toList.length (DataW.weights_mem_each (j:=1) (t:=9) rfl (by rw[aFA,x1];rfl) _ (by rw[z1];simp[DataW.weights])));have b2:=hwt _ (jB vl.data.toList.length (DataW.weights_mem_each (j:=2) (t:=9) rfl (by rw[aFA,x2];rfl) _ (by rw[z2];simp[DataW.weights])));unfold ChM.size;dsimp only;omega
  have oO:cs.length<=140737488355328:=by
   have hb:Tryz.prog.bytesOf 65=48:=vN
   have:=hwt ((len+(m-len))*48) (by
    rw[hx];simp only[DataW.weights,Tryz.underlying75,aFK,List.length_range,hb,aEP,true_or])
   rw[hlen];omega
  refine⟨cs,?_,oO,λc hc=>?_⟩
  .rcases FM (W:=W) (a:=a) (len:=len) (cap:=m) (λj hj=>⟨4,qE,by obtain⟨ys,n,_,_,_,J0⟩:=hi j hj;obtain⟨v0,y0,c0,_⟩:=J0 0 _ rfl;exact⟨v0,c0⟩⟩) hl with⟨e,h0⟩|⟨b,off,rfl,hb,e⟩
   .rw[e];exact .inl ⟨.inr rfl,aFi.1 qE⟩
   .rw[e];refine .inr ⟨b,off,m,by rw[hlen],hb,λi fk=>?_⟩;obtain⟨h0,h1,h2,h3,_⟩:=lL i fk;simp only[HW,<-Nat.add_assoc,aFC]at h0 h1 h2 h3;obtain⟨ob,g1,_⟩:=zG (N:=W.heap.size) h0;refine⟨_,ob,g1,λj x hj=>?_⟩;have U7:∀s:List UInt8,uA W.heap.size (.string (strB s))=.str s:=λs=>by simp[uA,strB]
    rcases j with _|_|_|_|j
    .cases hj;exact Md h0 rfl
    .cases hj;exact Md h1 (U7 _)
    .cases hj;exact Md h2 (U7 _)
    .cases hj;exact Md h3 rfl
    .cases hj
  .obtain⟨i,fk,rfl⟩:=aFP hc;exact(lL i fk).2.2.2.2
def FH (hf:DataW.trod enc Tryz.prog W 0 (λ_=>true) true fuel 63 [v]=some x)(hwt:∀n∈DataW.weights Tryz.prog 63 x.1,n<=140737488351232):
 ∃S:List (List ChM),Bl (Oi W W.heap.size) (uA W.heap.size v) S/\S.length<=9223372036854775807/\∀cs∈S,cs.length<=140737488355328/\∀c∈cs,c.size<=281474976710656:=by
 rcases pk Tryz.underlying63 Tryz.underlying77 vN vN hf with⟨hcs,_⟩|⟨a,len,cap,m,D,Pl,hcs,_,hl,hm,hme,hx,hi⟩
 .have hv:v=.slice none 0 0:=by simpa using hcs
  subst hv;exact⟨[],.inl ⟨.inl rfl,rfl⟩,uG,uG⟩
 .have hv:v=.slice (some a) len cap:=by simpa using hcs
  subst hv;have hmc:m=cap:=hme;subst hmc;unfold maxLen at hm
  obtain⟨S,hlen,lL⟩:=SP (P:=λk (cs:List ChM)=>(∃v1,W.cell? (a.add (k*5+1))=some v1/\Bm (Oi W W.heap.size) (uA W.heap.size v1) cs)/\cs.length<=140737488355328/\∀c∈cs,c.size<=281474976710656) len λk hk=>by
   obtain⟨ys,n,hD,_,hyl,J0⟩:=hi k qE;obtain⟨v1,y1,c1,x1,t1⟩:=J0 1 _ rfl
   have jB:∀n,n∈DataW.weights Tryz.prog 75 y1.1->n∈DataW.weights Tryz.prog 63 x.1:=λn hn=>by
    rw[hx];simp only[DataW.weights,Tryz.underlying63,aEP,aEY];right;left;refine yb (aFq.2 ⟨k,List.mem_range.2 hk,rfl⟩) ?_;rw[hD];simp only[DataW.weights,Tryz.underlying77];exact DataW.weights_mem_each (j:=1) (t:=75) rfl (by rw[aFA,x1];rfl) _ hn
   obtain⟨cs,h1,h2,h3⟩:=SC t1 λn hn=>hwt n (jB n hn);exact⟨cs,⟨v1,c1,h1⟩,h2,h3⟩
  refine⟨S,?_,qE,λcs apQ=>?_⟩
  .rcases FM (W:=W) (a:=a) (len:=len) (cap:=m) (λj hj=>⟨5,qE,by obtain⟨ys,n,_,_,_,J0⟩:=hi j hj;obtain⟨v0,y0,c0,_⟩:=J0 0 _ rfl;exact⟨v0,c0⟩⟩) hl with⟨e,h0⟩|⟨b,off,rfl,hb,e⟩
   .rw[e];exact .inl ⟨.inr rfl,aFi.1 qE⟩
   .rw[e];refine .inr ⟨b,off,m,by rw[hlen],hb,λi fk=>?_⟩;obtain⟨⟨v1,h1,h2⟩,_⟩:=lL i fk;simp only[HW,<-Nat.add_assoc]at h1;obtain⟨ob,g1,g2⟩:=zG (N:=W.heap.size) h1;exact⟨_,ob,_,g1,g2,h2⟩
  .obtain⟨i,fk,rfl⟩:=aFP apQ;exact(lL i fk).2
def chg_read {cs:Array Value}(hs:cs.size=4)(hf:DataW.trod enc Tryz.prog W 0 (λ_=>true) true fuel 65 cs.toList=some x):∃c:ChM,cs= #[.int .i64 c.sp,.string (strB c.key),.string (strB c.val),.bool c.gone]:=by
 obtain⟨ys,n,_,_,hlen,hyl,J0⟩:=DataW.trod_struct Tryz.underlying65 hf;obtain⟨l⟩:=cs
 match l,hs with
 |[a,b,c,d],_=>
  have c3:Tryz.prog.cellsOf 3=1:=vN
  have c9:Tryz.prog.cellsOf 9=1:=vN
  have c4:Tryz.prog.cellsOf 4=1:=vN
  have f0:=J0 0 _ rfl;have f1:=J0 1 _ rfl;have f2:=J0 2 _ rfl;have f3:=J0 3 _ rfl
  match ys,hyl with
  |[y0,y1,y2,y3],_=>
   obtain⟨sp,e0,_⟩:=DataW.trod_int Tryz.underlying3 f0;obtain⟨ky,e1,_⟩:=DataW.trod_string Tryz.underlying9 f1;obtain⟨vl,e2,_⟩:=DataW.trod_string Tryz.underlying9 f2;obtain⟨go,e3,_⟩:=DataW.trod_bool Tryz.underlying4 f3;simp[c3,c9,c4]at e0 e1 e2 e3;subst e0 e1 e2 e3;exact⟨⟨sp,ky.data.toList,vl.data.toList,go⟩,by simp[pR]⟩
def walk6 (hf:DataW.trod enc Tryz.prog W 0 (λ_=>true) true fuel 63 [v]=some x)(hwt:∀n∈DataW.weights Tryz.prog 63 x.1,n<=140737488351232)(c:ChM)(n:Int):
 Calls Tryz.prog 6 #[v,.agg #[.int .i64 c.sp,.string (strB c.key),.string (strB c.val),.bool c.gone],.int .i64 n] W λe w'=>e=.returned (.bool true)/\Left4 W w':=by
 obtain⟨S,hA,hl,hsz⟩:=FH hf hwt;exact Pe rfl (eK.cons (L8 _ _ _) (eK.cons (abo (eK.cons (.int _ _) (eK.cons (.str _) (eK.cons (.str _) (eK.cons (.bool _) (eK.nil _)))))) (eK.cons (.int _ _) (eK.nil _)))) (abl hA (My (aEQ _)) hl hsz c n λs k=>⟨rfl,k⟩)
end
