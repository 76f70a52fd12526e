import Derived.Deep.Slices
import Derived.Deep.Fields
import Derived.ChangeSame
import Derived.ProofKit
import Derived.OpenShut
import Derived.Below
import Derived.Test.YtomffjeofpafnaaGreatDoorSndE
import Derived.Test.YtomffjeofpafnaaGreatDoorKw
namespace Lim
open Go
noncomputable section
set_option linter.defProp false
def Em (W:World)(b:Nat):Option (Array Value×TypeId×Nat×Nat):=match W.heap[b]? with
 |some (.cells c t (lo,hi))=>some (c,t,lo,hi)
 |_=>none
def B0 (W:World)(N:Nat):Ren:=λb=>if b<N then some (b,match Em W b with|some (c,_)=>c.size|none=>0)else none
def pA (N:Nat):Value->CV
 | .int k n=>.int k n
 | .string s=>.str s.data.toList
 | .bool b=>.bool b
 | .slice none 0 0=>.ae
 | .slice (some ⟨b,off,none⟩) len cap=>if b<N then .slice b off len cap 0 else (if len=0/\cap=0 then .mr else .any)
 | .slice (some _) 0 0=>.mr
 |_=>.any
def Qs (W:World)(N:Nat):PT rU:=λb=>(Em W b).map λx=>.ro (x.1.toList.map (pA N)) (.cells x.1 x.2.1 (x.2.2.1,x.2.2.2))
def M3 (W:World)(N:Nat):St:=⟨Qs W N,N⟩
def Fy (W:World)(N:Nat)(v:Value):VR (B0 W N) (pA N v) v:=by
 unfold pA
 split
 .exact .int _ _
 .rename_i s;have:=VR.str (ρ:=B0 W N) s.data.toList
  rwa [oo]at this
 .exact .bool _
 .exact .ae
 .split
  .rename_i b off len cap h;exact .slice b off len cap b _ (by unfold B0;rw[aHP h])
  .split
   .rename_i h;obtain⟨rfl,rfl⟩:=h;exact .mr _
   .exact .any _
 .exact .mr _
 .exact .any _
def Nc {W:World}{b:Nat}{c:Array Value}{t:TypeId}{lo hi:Nat}(h:Em W b=some (c,t,lo,hi)):W.heap[b]?=some (.cells c t (lo,hi)):=by
 unfold Em at h
 split at h
 .rename_i e;rw[e];cases h;rfl
 .cases h
def Ea {W:World}{N b:Nat}{blk:rU}(h:(M3 W N).m.g b=some blk):b<W.heap.size/\∃c t lo hi,W.heap[b]?=some (.cells c t (lo,hi))/\Em W b=some (c,t,lo,hi)/\blk=.ro (c.toList.map (pA N)) (.cells c t (lo,hi)):=by
 have h:Qs W N b=some blk:=h;unfold Qs at h;cases a:Em W b with
 |none=>rw[a]at h;cases h
 |some x=>
  rw[a]at h;obtain⟨c,t,lo,hi⟩:=x;have h1:=Nc a;cases h;refine⟨?_,c,t,lo,hi,h1,rfl,rfl⟩;rcases aIX b W.heap.size with h2|h2
  .exact h2
  .rw[Array.getElem?_eq_none h2]at h1;cases h1
def abJ (W:World)(N:Nat):WR (B0 W N) (M3 W N) W:=by
 refine⟨λb blk r sz g d=>?_,λb m blk l r sz n g d f e=>?_,λb x h=>?_⟩
 .obtain⟨_,c,t,lo,hi,k,j,rfl⟩:=Ea g;unfold B0 at d
  split at d
  .rw[j]at d;cases d;refine⟨_,k,.ro _ c t lo hi wb ⟨wb,λi v v' a b=>?_⟩⟩;rw[aIu]at a;rw[aJe]at b
   split at b
   .rw[b]at a;cases a;exact Fy W N v'
   .cases b
  .cases d
 .unfold B0 at f e
  split at f
  .split at e
   .cases f;cases e;rfl
   .cases e
  .cases f
 .unfold B0 at h;show b<N
  split at h
  .assumption
  .cases h
def M0 {W:World}{N:Nat}(h:W.heap.size<=N):eA (M3 W N):=λb a=>by
 cases hm:(M3 W N).m.g b with
 |none=>rfl
 |some blk=>have:=(Ea hm).1;have:N<=b:=a;omega
def vR (W:World)(N b:Nat):List CV:=match Em W b with|some x=>x.1.toList.map (pA N)|none=>[]
def wu {W:World}{N b o:Nat}{v:Value}(h:W.cell? ⟨b,o,none⟩=some v):∃d,(M3 W N).m.g b=some (.ro (vR W N b) d)/\(vR W N b)[o]?=some (pA N v):=by
 unfold World.cell? at h;cases ho:W.heap[b]? with
 |none=>simp[ho]at h
 |some x=>
  cases x with
  |cells c t fr=>
   obtain⟨lo,hi⟩:=fr;have a:Em W b=some (c,t,lo,hi):=by unfold Em;rw[ho]
   refine⟨.cells c t (lo,hi),?_,?_⟩
   .show Qs W N b=_;unfold Qs vR;rw[a];rfl
   .unfold vR;rw[a];simp only[ho]at h;rw[aHM xI]at h;simp only[aIu,Array.getElem?_toList];rw[h];rfl
  |_=>simp[ho]at h
open Go Go.RowKit Go.ChangeShapes Go.WideShapes Go.Deep Go.Proofs
set_option maxRecDepth 100000
section
variable {H:Type} {enc:TypeId×Value->H} {P:Program} {w:World} {base:Nat} {spare:Nat->Bool} {held:Bool}
def pP {t e:TypeId}{d:Array Field}{fuel:Nat}{cs:List Value}{x:DataW H×List MemPlace}(K:P.underlying t=some (.slice e))(S:P.underlying e=some (.struct d))
 (I:oneCellFields P d=true) (A:P.cellsOf e=d.size) (h:DataW.trod enc P w base spare held fuel t cs=some x):
 (cs=[.slice none 0 0]/\x=(.nil,[]))\/
 ∃(a:Addr) (len cap m:Nat) (D:Nat->DataW H) (k:Nat->List MemPlace),cs=[.slice (some a) len cap]/\base<=a.block/\len<=cap/\cap<=maxLen/\m=(if spare a.block then cap else len)/\
  x=(.slice ((List.range len).map D) ((List.range (m-len)).map λj=>D (len+j)),MemPlace.row a (m*d.size)++(List.range m).flatMap k)/\
  ∀i,i<m->∃(c:List (DataW H×List MemPlace)) (n:Nat),D i=.agg (c.map (·.1))/\k i=c.flatMap (·.2)/\c.length=d.size/\
   ∀(j:Nat) (f:Field),d[j]?=some f->∃(v:Value) (y:DataW H×List MemPlace),w.cell? (a.add (i*d.size+j))=some v/\c[j]?=some y/\DataW.trod enc P w base spare held n f.type [v]=some y:=by
 rcases open_slice K h with U|⟨a,len,cap,m,n,D,k,E,T,O,N,B,s,hi⟩
 .exact .inl U
 .refine .inr ⟨a,len,cap,m,D,k,E,T,O,N,B,by rw[A]at s;exact s,λi r=>?_⟩;obtain⟨b,z,W⟩:=hi i r;rw[A]at z;obtain⟨c,F,M,o,u,l,R⟩:=DataW.trod_struct S W;obtain⟨_,X,G⟩:=World.cells?_some z;simp only[aJD]at o;refine⟨c,F,o.1,o.2,l,λj f q=>?_⟩;obtain⟨L,Q⟩:=hone_of I j f q;have p:=(aIy.1 q).1;have C:=G j p;have J:b[j]?=some (b[j]' uM):=aHO uM;have h1:=R j f q;rw[L,Q]at h1
  have V:(b.drop j).take 1=[b[j]' uM]:=by
   rw[aIe uM]
   rfl
  rw[V]at h1;have g:c[j]?=some (c[j]' uM):=aHO uM;refine⟨_,_,?_,g,h1.trans g⟩;rw[<-Go.Deep.add_add,C,J]
end
def yB {H:Type}{P:Program}{e:TypeId}{d:DataW H}{l:List (DataW H)}(a:d∈l){n:Nat}(c:n∈DataW.weights P e d):n∈DataW.weightsAll P e l:=by
 induction l with
 |nil=>cases a
 |cons x r b=>
  simp only[DataW.weightsAll,aHT];rcases aHJ.1 a with rfl|h
  .exact .inl c
  .exact .inr (b h)
structure Left4 (W w':World):Prop where
 os:w'.os=W.os
 output:w'.output=W.output
 size:W.heap.size<=w'.heap.size
 block:∀k,k<W.heap.size->w'.heap[k]?=W.heap[k]?
def Left4.frame {W w':World}(h:Left4 W w')(a:MemPlace->Prop):W.keptBut w' a:=by
 refine⟨h.os,h.output,λi hi=>?_⟩;rw[h.block i hi]
 split<;>simp_all
def Left4.below {W w':World}(h:Left4 W w'):Below W.heap.size W {w' with tape:=W.tape}:=⟨h.os,rfl,h.output,h.size,h.block⟩
def Left4.trod {H:Type}{enc:TypeId×Value->H}{P:Program}{t:TypeId}(i:laidOutB P=true)(g:P.readableRec t=true)(f:t<P.types.size){W e:World}{v:Value}{d:DataW H}{ps:List MemPlace}
 (h:DataW.Trod enc P W 0 (λ_=>true) true t v d ps) (j:Left4 W e) (a:∀x∈ps,x.block<W.heap.size):
 DataW.Trod enc P e 0 (λb=>decide (b<W.heap.size)) true t v d ps:=
 WideElems.Trod_stays i g f h (λx c=>by
  have:=j.below.same (a x c);cases x<;>exact this) (λx c=>by simpa using a x c)
def Pb {f:Nat}{args:List CV}{l:Array Value}{W:World}(v:I0 f args (M3 W W.heap.size)=none)(u:eM (B0 W W.heap.size) args l.toList)(h:R f args (M3 W W.heap.size) λy s=>y=.bool true/\Kp [] (M3 W W.heap.size) s):
 Calls Tryz.prog f l W λe w'=>e=.returned (.bool true)/\Left4 W w':=by
 obtain⟨y,st',⟨_,r⟩,rfl,q⟩:=qt.YS BA SV v h;refine(r _ W l (abJ W _) u).mono ?_;rintro e w' ⟨v',p,rfl,B,d⟩;cases B;refine⟨rfl,d.os,d.output,d.size,λk j=>?_⟩
 by_cases n:∃b blk sz,(M3 W W.heap.size).m.g b=some blk/\B0 W W.heap.size b=some (k,sz)
 .obtain⟨b,blk,sz,i,a⟩:=n;have o:=(Ea i).1;obtain⟨_,c,t,lo,hi,A,_,rfl⟩:=Ea i;obtain⟨C,z,x⟩:=d.wr.at' b _ k sz ((q.keep b o wb).trans i) (d.ext _ _ a);unfold B0 at a;rw[aHP o]at a;simp only[aJo,aJD]at a;obtain⟨rfl,_⟩:=a;cases x;rw[z,A]
 .exact d.kept k j λb blk sz i a=>n ⟨b,blk,sz,i,a⟩
def Gu {W:World}{a:Addr}{len cap:Nat}(f:∀j,j<cap->∃k,0<k/\∃v,W.cell? (a.add (j*k))=some v)(i:len<=cap):
 (pA W.heap.size (.slice (some a) len cap)=.mr/\len=0)\/∃b off,a=⟨b,off,none⟩/\b<W.heap.size/\pA W.heap.size (.slice (some a) len cap)=.slice b off len cap 0:=by
 obtain⟨b,off,sp⟩:=a
 have e:0<cap->sp=none/\b<W.heap.size:=λd=>by
  obtain⟨k,_,v,h⟩:=f 0 d;have h1:=World.cell?_spot h;have g:sp=none:=by simpa[Addr.add]using h1
  subst g;refine⟨rfl,?_⟩;rcases aIX b W.heap.size with c|c
  .exact c
  .simp[World.cell?,Addr.add,Array.getElem?_eq_none c]at h
 cases sp with
 |none=>
  by_cases c:b<W.heap.size
  .exact .inr ⟨b,off,rfl,c,by simp[pA,c]⟩
  .have d:cap=0:=by
    rcases Nat.eq_zero_or_pos cap with h|h
    .exact h
    .exact absurd (e h).2 c
   have:len=0:=uM
   subst d this;exact .inl ⟨by simp[pA,c],rfl⟩
 |some x=>
  have d:cap=0:=by
   rcases Nat.eq_zero_or_pos cap with h|h
   .exact h
   .cases (e h).1
  have:len=0:=uM
  subst d this;exact .inl ⟨rfl,rfl⟩
def KV {a:Type}{P:Nat->a->Prop}:∀n,(∀k,k<n->∃x,P k x)->∃S:List a,S.length=n/\∀k (h:k<S.length),P k S[k]:=by
 intro n
 induction n with
 |zero=>intro _;exact⟨[],rfl,λk h=>aap⟩
 |succ n d=>
  intro h;obtain⟨S,h1,f⟩:=d λk c=>h k uM;obtain⟨x,e⟩:=h n uM;refine⟨S++[x],ael,λk c=>?_⟩
  by_cases b:k<S.length
  .rw[List.getElem_append_left b];exact f k b
  .have:k=n:=by simp at c;omega
   subst this;subst h1
   simpa using e
open Go Go.RowKit Go.ChangeShapes Go.WideShapes Go.Deep Go.Proofs
section
variable {H:Type} {enc:TypeId×Value->H} {W:World} {fuel:Nat} {v:Value} {x:DataW H×List MemPlace}
def Bw (b off i:Nat):(⟨b,off,none⟩:Addr).add i=⟨b,off+i,none⟩:=by unfold Addr.add;split<;>simp_all
def u9 {b o:Nat}{v:Value}{x:CV}(h:W.cell? ⟨b,o,none⟩=some v)(e:pA W.heap.size v=x):(vR W W.heap.size b)[o]?=some x:=by
 obtain⟨_,_,a⟩:=wu (N:=W.heap.size) h;rw[a,e]
def Sy (hf:DataW.trod enc Tryz.prog W 0 (λ_=>true) true fuel 75 [v]=some x)(o:∀n∈DataW.weights Tryz.prog 75 x.1,n<=140737488351232):
 ∃cs:List jI,rV (M3 W W.heap.size) (pA W.heap.size v) cs/\cs.length<=140737488355328/\∀c∈cs,c.size<=281474976710656:=by
 rcases pP Tryz.underlying75 Tryz.underlying65 zR zR hf with⟨p,_⟩|⟨a,len,cap,m,D,Pl,p,_,hl,hm,u,I,hi⟩
 .have r:v=.slice none 0 0:=by simpa using p
  subst r;exact⟨[],.inl ⟨.inl rfl,rfl⟩,wb,wb⟩
 .have r:v=.slice (some a) len cap:=by simpa using p
  subst r;have w:m=cap:=u;subst w
  obtain⟨cs,d,F⟩:=KV (P:=λk (c:jI)=>W.cell? (a.add (k*4+0))=some (.int .i64 c.sp)/\W.cell? (a.add (k*4+1))=some (.string (gF c.key))/\W.cell? (a.add (k*4+2))=some (.string (gF c.val))/\W.cell? (a.add (k*4+3))=some (.bool c.gone)/\c.size<=281474976710656) len λk hk=>by
   obtain⟨B,n,hD,_,aa,g⟩:=hi k uM;obtain⟨E,V,A,x0,t0⟩:=g 0 _ rfl;obtain⟨v1,y1,c1,Y,t1⟩:=g 1 _ rfl;obtain⟨v2,y2,c2,X,t2⟩:=g 2 _ rfl;obtain⟨v3,y3,c3,x3,Z⟩:=g 3 _ rfl;obtain⟨sp,R,z0,_⟩:=DataW.trod_int Tryz.underlying3 t0;obtain⟨G,Q,U,_⟩:=DataW.trod_string Tryz.underlying9 t1;obtain⟨C,O,T,_⟩:=DataW.trod_string Tryz.underlying9 t2;obtain⟨go,M,z3⟩:=DataW.trod_bool Tryz.underlying4 Z;simp only[aJl,and_true]at R Q O M;subst R Q O M;refine⟨⟨sp,G.data.toList,C.data.toList,go⟩,A,?_,?_,c3,?_⟩
   .rw[oo];exact c1
   .rw[oo];exact c2
   .have q:∀n,n∈DataW.weights Tryz.prog 65 (D k)->n∈DataW.weights Tryz.prog 75 x.1:=λn hn=>by
     rw[I];simp only[DataW.weights,Tryz.underlying75,aHJ,aHT];right;left;exact yB (aIk.2 ⟨k,List.mem_range.2 hk,rfl⟩) hn
    have hw:DataW.weights Tryz.prog 65 (D k)=DataW.weightsEach Tryz.prog [3,9,9,4] (B.map (·.1)):=by
     rw[hD];simp[DataW.weights,Tryz.underlying65]
    rw[hw]at q;have b1:=o _ (q G.data.toList.length (DataW.weights_mem_each (j:=1) (t:=9) rfl (by rw[aIu,Y];rfl) _ (by rw[U];simp[DataW.weights])));have b2:=o _ (q C.data.toList.length (DataW.weights_mem_each (j:=2) (t:=9) rfl (by rw[aIu,X];rfl) _ (by rw[T];simp[DataW.weights])));unfold jI.size;dsimp only;omega
  have qR:cs.length<=140737488355328:=by
   have y:Tryz.prog.bytesOf 65=48:=zR
   have:=o ((len+(m-len))*48) (by
    rw[I];simp only[DataW.weights,Tryz.underlying75,aIx,List.length_range,y,aHJ,true_or])
   rw[d];omega
  refine⟨cs,?_,qR,λc hc=>?_⟩
  .rcases Gu (W:=W) (a:=a) (len:=len) (cap:=m) (λj f=>⟨4,uM,by obtain⟨B,n,_,_,_,g⟩:=hi j f;obtain⟨E,V,A,_⟩:=g 0 _ rfl;exact⟨E,A⟩⟩) hl with⟨e,l⟩|⟨b,off,rfl,y,e⟩
   .rw[e];exact .inl ⟨.inr rfl,aIh.1 uM⟩
   .rw[e];refine .inr ⟨b,off,m,by rw[d],y,λi z=>?_⟩;obtain⟨l,L,K,J,_⟩:=F i z;simp only[Bw,<-Nat.add_assoc,aIv]at l L K J;obtain⟨ob,g1,_⟩:=wu (N:=W.heap.size) l;refine⟨_,ob,g1,λj x f=>?_⟩;have S:∀s:List UInt8,pA W.heap.size (.string (gF s))=.str s:=λs=>by simp[pA,gF]
    rcases j with _|_|_|_|j
    .cases f;exact u9 l rfl
    .cases f;exact u9 L (S _)
    .cases f;exact u9 K (S _)
    .cases f;exact u9 J rfl
    .cases f
  .obtain⟨i,z,rfl⟩:=aIM hc;exact(F i z).2.2.2.2
def Ps {l row:List CV}{p:Nat}(g:0<row.length)(h:∀o x,row[o]?=some x->l[p+o]?=some x):p+row.length<=l.length/\(l.drop p).take row.length=row:=by
 have h1:=λo c=>h o _ (aHO c);have h2:=h1 (row.length-1) uM;obtain⟨f,_⟩:=aHW.1 h2;refine⟨uM,List.ext_getElem zS λo a b=>?_⟩;have e:=h1 o b;rw[List.getElem_take,List.getElem_drop];obtain⟨_,d⟩:=aHW.1 e;exact d
def Gn (hf:DataW.trod enc Tryz.prog W 0 (λ_=>true) true fuel 63 [v]=some x)(Y:∀n∈DataW.weights Tryz.prog 63 x.1,n<=140737488351232):
 ∃S:List xA,BG (M3 W W.heap.size) (pA W.heap.size v) S/\S.length<=9223372036854775807/\∀p∈S,p.cs.length<=140737488355328/\∀c∈p.cs,c.size<=281474976710656:=by
 rcases pP Tryz.underlying63 Tryz.underlying77 zR zR hf with⟨y,_⟩|⟨a,len,cap,m,D,Pl,y,_,hl,hm,B,hx,hi⟩
 .have z:v=.slice none 0 0:=by simpa using y
  subst z;exact⟨[],.inl ⟨.inl rfl,rfl⟩,wb,wb⟩
 .have z:v=.slice (some a) len cap:=by simpa using y
  subst z;have C:m=cap:=B;subst C;unfold maxLen at hm
  obtain⟨S,o,I⟩:=KV (P:=λk (p:xA)=>(∃g,W.cell? (a.add (k*5+0))=some (.int .u8 p.kind)/\W.cell? (a.add (k*5+1))=some g/\W.cell? (a.add (k*5+2))=some (.int .i64 p.sp)/\W.cell? (a.add (k*5+3))=some (.string (gF p.fm))/\W.cell? (a.add (k*5+4))=some (.string (gF p.to))/\rV (M3 W W.heap.size) (pA W.heap.size g) p.cs)/\p.cs.length<=140737488355328/\∀c∈p.cs,c.size<=281474976710656) len λk hk=>by
   obtain⟨T,n,hD,_,aa,f⟩:=hi k uM;obtain⟨G,V,F,x0,t0⟩:=f 0 _ rfl;obtain⟨g,U,c1,X,t1⟩:=f 1 _ rfl;obtain⟨v2,y2,c2,x2,t2⟩:=f 2 _ rfl;obtain⟨v3,y3,c3,x3,t3⟩:=f 3 _ rfl;obtain⟨v4,y4,c4,x4,t4⟩:=f 4 _ rfl;obtain⟨kd,Q,z0,_⟩:=DataW.trod_int (show Tryz.prog.underlying _=some (.int .u8) from zR) t0;obtain⟨sp,O,z2,_⟩:=DataW.trod_int Tryz.underlying3 t2;obtain⟨fm,M,z3,_⟩:=DataW.trod_string Tryz.underlying9 t3;obtain⟨Z,L,z4,_⟩:=DataW.trod_string Tryz.underlying9 t4;simp only[aJl,and_true]at Q O M L;subst Q O M L
   have iS:∀n,n∈DataW.weights Tryz.prog 75 U.1->n∈DataW.weights Tryz.prog 63 x.1:=λn A=>by
    rw[hx];simp only[DataW.weights,Tryz.underlying63,aHJ,aHT];right;left;refine yB (aIk.2 ⟨k,List.mem_range.2 hk,rfl⟩) ?_;rw[hD];simp only[DataW.weights,Tryz.underlying77];exact DataW.weights_mem_each (j:=1) (t:=75) rfl (by rw[aIu,X];rfl) _ A
   obtain⟨cs,u,r,q⟩:=Sy t1 λn A=>Y n (iS n A);exact⟨⟨kd,cs,sp,fm.data.toList,Z.data.toList⟩,⟨g,F,c1,c2,by rw[oo];exact c3,by rw[oo];exact c4,u⟩,r,q⟩
  refine⟨S,?_,uM,λp hp=>?_⟩
  .rcases Gu (W:=W) (a:=a) (len:=len) (cap:=m) (λj d=>⟨5,uM,by obtain⟨T,n,_,_,_,f⟩:=hi j d;obtain⟨G,V,F,_⟩:=f 0 _ rfl;exact⟨G,F⟩⟩) hl with⟨e,w⟩|⟨b,off,rfl,hb,e⟩
   .rw[e];exact .inl ⟨.inr rfl,aIh.1 uM⟩
   .rw[e];refine .inr ⟨b,off,m,by rw[o],hb,λi E=>?_⟩;obtain⟨⟨g,w,u,r,q,K,h5⟩,_⟩:=I i E;simp only[Bw,<-Nat.add_assoc,aIv]at w u r q K;obtain⟨ob,g1,_⟩:=wu (N:=W.heap.size) w;have R:∀s:List UInt8,pA W.heap.size (.string (gF s))=.str s:=λs=>by simp[pA,gF]
    have J:=Ps (l:=vR W W.heap.size b) (row:=oE S[i] (pA W.heap.size g)) (p:=off+i*5) (by simp[oE]) λj x d=>by
     rcases j with _|_|_|_|_|j
     .cases d;exact u9 w rfl
     .cases d;exact u9 u rfl
     .cases d;exact u9 r rfl
     .cases d;exact u9 q (R _)
     .cases d;exact u9 K (R _)
     .cases d
    exact⟨_,ob,_,g1,J.1,J.2,h5⟩
  .obtain⟨i,E,rfl⟩:=aIM hp;exact(I i E).2
end
open Go Go.RowKit Go.ChangeShapes Go.WideShapes Go.Deep Go.Proofs
section
variable {H:Type} {enc:TypeId×Value->H} {W:World} {fuel:Nat} {v:Value} {x:DataW H×List MemPlace}
def FJ (W:World)(v:Value):Prop:=v=.slice none 0 0\/∃b off len cap,v=.slice (some ⟨b,off,none⟩) len cap/\∃row cells,W.shape? b=some (row,cells)
def FJ.cv {a:Addr}{len cap:Nat}(h:FJ W (.slice (some a) len cap)):∃b off,a=⟨b,off,none⟩/\b<W.heap.size/\pA W.heap.size (.slice (some a) len cap)=.slice b off len cap 0:=by
 rcases h with h|⟨b,off,e,f,h,row,cells,d⟩
 .cases h
 .cases h
  have c:b<W.heap.size:=by
   rcases aIX b W.heap.size with h|h
   .exact h
   .simp[World.shape?,Array.getElem?_eq_none h]at d
  exact⟨b,off,rfl,c,by simp[pA,c]⟩
def Zd (hp:FJ W v)(B:DataW.trod enc Tryz.prog W 0 (λ_=>true) true fuel 53 [v]=some x)(w:∀n∈DataW.weights Tryz.prog 53 x.1,n<=140737488351232):
 ∃L:List Bool,pZ (M3 W W.heap.size) [] (pA W.heap.size v) L/\L.length<=140737488355328:=by
 rcases open_slice Tryz.underlying53 B with⟨i,_⟩|⟨a,len,cap,m,n,D,Q,i,_,M,K,r,z,hi⟩
 .have o:v=.slice none 0 0:=by simpa using i
  subst o;exact⟨[],.inl ⟨rfl,rfl⟩,wb⟩
 .have o:v=.slice (some a) len cap:=by simpa using i
  subst o;have s:m=cap:=r;subst s;obtain⟨b,off,rfl,E,e⟩:=hp.cv;have G:Tryz.prog.cellsOf 4=1:=zR
  rw[G]at hi
  obtain⟨L,c,d⟩:=KV (P:=λk (p:Bool)=>W.cell? ⟨b,off+k,none⟩=some (.bool p)) len λk O=>by
   obtain⟨cs,C,f⟩:=hi k uM;obtain⟨I,rfl,_⟩:=DataW.trod_bool Tryz.underlying4 f;obtain⟨_,J,d⟩:=World.cells?_some C;have:=d 0 uM;simp only[Bw,aJr,aIv,aHG]at this;exact⟨I,this⟩
  refine⟨L,.inr ⟨b,off,m,by rw[e,c],?_⟩,?_⟩
  .by_cases h0:L=[]
   .exact .inl h0
   .have hp:=aJu.2 h0;obtain⟨y,F,_⟩:=wu (N:=W.heap.size) (d 0 hp)
    have f:=Ps (l:=vR W W.heap.size b) (row:=tD L) (p:=off) (by simpa using hp) λj x g=>by
     simp only[aIu,Option.map_eq_some_iff]at g;obtain⟨q,A,rfl⟩:=g;obtain⟨g,rfl⟩:=aHW.1 A;exact u9 (d j g) rfl
    rw[show(tD L).length=L.length by simp]at f;exact .inr ⟨wb,E,_,y,F,f⟩
  .have u:Tryz.prog.bytesOf 4=1:=by kernel_rfl
   have:=w ((len+(m-len))*1) (by
    rw[z];simp only[DataW.weights,Tryz.underlying53,aIx,List.length_range,u,aHJ,true_or])
   omega
end
def walk7 {H:Type}{enc:TypeId×Value->H}{W:World}{u s:Nat}{f a:Value}{d c:DataW H×List MemPlace}(k:FJ W a)(n:Int)
 (r:DataW.trod enc Tryz.prog W 0 (λ_=>true) true u 63 [f]=some d) (j:∀n∈DataW.weights Tryz.prog 63 d.1,n<=140737488351232)
 (m:Int) (q:DataW.trod enc Tryz.prog W 0 (λ_=>true) true s 53 [a]=some c) (i:∀n∈DataW.weights Tryz.prog 53 c.1,n<=140737488351232):
 Calls Tryz.prog 7 #[.int .i64 n,f,.int .i64 m,a] W λe w'=>e=.returned (.bool true)/\Left4 W w':=by
 obtain⟨S,p,l,b⟩:=Gn r j;obtain⟨L,o,g⟩:=Zd k q i;exact Pb rfl (eM.cons (.int _ _) (eM.cons (Fy _ _ _) (eM.cons (.int _ _) (eM.cons (Fy _ _ _) (eM.nil _))))) (Su p o (M0 (aHK _)) l b g n m)
