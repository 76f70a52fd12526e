import Derived.Deep.Slices
import Derived.Deep.Fields
import Derived.ChangeSame
import Derived.ProofKit
import Derived.OpenShut
import Derived.Below
import Derived.Test.YtckodcbgpffimaaGreatDoorSndE
import Derived.Test.YtckodcbgpffimaaGreatDoorShD
namespace Lim
open Go
noncomputable section
set_option linter.defProp false
def Fx (W:World)(b:Nat):υ (Array Value×TypeId×Nat×Nat):=match W.heap[b]? with
 |some (.cells c t (lo,hi))=>Φ (c,t,lo,hi)
 |_=>ν
def C5 (W:World)(N:Nat):Ren:=λb=>if b<N then Φ (b,match Fx W b with|some (c,_)=>c.size|none=>0)else ν
def qC (N:Nat):Value->K
 | .int k n=>.int k n
 | .string s=>.str s.data.toList
 | .bool b=>.bool b
 | .slice none 0 0=>.ae
 | .slice (some ⟨b,off,none⟩) len cap=>if b<N then .slice b off len cap 0 else (if len=0/\cap=0 then .oM else .any)
 | .slice (some _) 0 0=>.oM
 |_=>.any
def Sj (W:World)(N:Nat):PT tp:=λb=>(Fx W b).map λx=>.ro (x.1.toList.map (qC N)) (.cells x.1 x.2.1 (x.2.2.1,x.2.2.2))
def Kb (W:World)(N:Nat):O:=⟨Sj W N,N⟩
def Oj (W:World)(N:Nat)(v:Value):VR (C5 W N) (qC N v) v:=by
 unfold qC
 split
 .exact .int _ _
 .rename_i s;have:=VR.str (ρ:=C5 W N) s.data.toList
  rwa [lZ]at this
 .exact .bool _
 .exact .ae
 .split
  .rename_i b off len cap h;exact .slice b off len cap b _ (by unfold C5;rw[gq h])
  .split
   .rename_i h;obtain⟨rfl,rfl⟩:=h;exact .oM _
   .exact .any _
 .exact .oM _
 .exact .any _
def O1 {W:World}{b:Nat}{c:Array Value}{t:TypeId}{lo hi:Nat}(h:Fx W b=Φ (c,t,lo,hi)):W.heap[b]?=Φ (.cells c t (lo,hi)):=by
 unfold Fx at h
 split at h
 .rename_i e;rw[e];cases h;rfl
 .cases h
def Fa {W:World}{N b:Nat}{blk:tp}(h:(Kb W N).m.g b=Φ blk):b<W.heap.size/\∃c t lo hi,W.heap[b]?=Φ (.cells c t (lo,hi))/\Fx W b=Φ (c,t,lo,hi)/\blk=.ro (c.toList.map (qC N)) (.cells c t (lo,hi)):=by
 have h:Sj W N b=Φ blk:=h;unfold Sj at h;cases a:Fx W b with
 |none=>rw[a]at h;cases h
 |some x=>
  rw[a]at h;obtain⟨c,t,lo,hi⟩:=x;have h1:=O1 a;cases h;refine⟨?_,c,t,lo,hi,h1,rfl,rfl⟩;rcases wl b W.heap.size with h2|h2
  .exact h2
  .rw[Array.getElem?_eq_none h2]at h1;cases h1
def aeG (W:World)(N:Nat):WR (C5 W N) (Kb W N) W:=by
 refine⟨λb blk r sz g d=>?_,λb k blk j r sz l g d f e=>?_,λb x h=>?_⟩
 .obtain⟨_,c,t,lo,hi,e1,e2,rfl⟩:=Fa g;unfold C5 at d
  split at d
  .rw[e2]at d;cases d;refine⟨_,e1,.ro _ c t lo hi V ⟨V,λi v v' a b=>?_⟩⟩;rw[ul]at a;rw[ý]at b
   split at b
   .rw[b]at a;cases a;exact Oj W N v'
   .cases b
  .cases d
 .unfold C5 at f e
  split at f
  .split at e
   .cases f;cases e;rfl
   .cases e
  .cases f
 .unfold C5 at h;show b<N
  split at h
  .assumption
  .cases h
def OS {W:World}{N:Nat}(h:W.heap.size<=N):dV (Kb W N):=λb a=>by
 cases hm:(Kb W N).m.g b with
 |none=>rfl
 |some blk=>have:=(Fa hm).1;have:N<=b:=a;omega
def Cp (W:World)(N b:Nat):δ K:=match Fx W b with|some x=>x.1.toList.map (qC N)|none=>[]
def xQ {W:World}{N b o:Nat}{v:Value}(h:W.cell? ⟨b,o,ν⟩=Φ v):∃d,(Kb W N).m.g b=Φ (.ro (Cp W N b) d)/\(Cp W N b)[o]?=Φ (qC N v):=by
 unfold World.cell? at h;cases ho:W.heap[b]? with
 |none=>simp[ho]at h
 |some x=>
  cases x with
  |cells c t fr=>
   obtain⟨lo,hi⟩:=fr;have a:Fx W b=Φ (c,t,lo,hi):=by unfold Fx;rw[ho]
   refine⟨.cells c t (lo,hi),?_,?_⟩
   .show Sj W N b=_;unfold Sj Cp;rw[a];rfl
   .unfold Cp;rw[a];simp only[ho]at h;rw[B tW]at h;simp only[ul,Array.getElem?_toList];rw[h];rfl
  |_=>simp[ho]at h
open Go Go.RowKit Go.ChangeShapes Go.WideShapes Go.Deep Go.Proofs
set_option maxRecDepth 100000
section
variable {H:Type} {enc:TypeId×Value->H} {P:Program} {w:World} {base:Nat} {spare:Nat->Bool} {held:Bool}
def yg {t e:TypeId}{d:Array Field}{fuel:Nat}{s:δ Value}{x:DataW H×δ MemPlace}(T:P.underlying t=Φ (.slice e))(he:P.underlying e=Φ (.struct d))
 (N:oneCellFields P d=θ) (F:P.cellsOf e=d.size) (h:DataW.trod enc P w base spare held fuel t s=Φ x):
 (s=[.slice ν 0 0]/\x=(.nil,[]))\/
 ∃(a:Addr) (len cap m:Nat) (D:Nat->DataW H) (k:Nat->δ MemPlace),s=[.slice (Φ a) len cap]/\base<=a.block/\len<=cap/\cap<=maxLen/\m=(if spare a.block then cap else len)/\
  x=(.slice ((List.range len).map D) ((List.range (m-len)).map λj=>D (len+j)),MemPlace.row a (m*d.size)++(List.range m).flatMap k)/\
  ∀i,i<m->∃(c:δ (DataW H×δ MemPlace)) (n:Nat),D i=.agg (c.map (·.1))/\k i=c.flatMap (·.2)/\c.length=d.size/\
   ∀(j:Nat) (f:Field),d[j]?=Φ f->∃(v:Value) (y:DataW H×δ MemPlace),w.cell? (a.add (i*d.size+j))=Φ v/\c[j]?=Φ y/\DataW.trod enc P w base spare held n f.type [v]=Φ y:=by
 rcases open_slice T h with h0|⟨a,len,cap,m,n,D,k,I,hb,hl,Y,G,u,hi⟩
 .exact .inl h0
 .refine .inr ⟨a,len,cap,m,D,k,I,hb,hl,Y,G,by rw[F]at u;exact u,λi r=>?_⟩;obtain⟨b,C,BF⟩:=hi i r;rw[F]at C;obtain⟨c,L,X,o,z,l,hf⟩:=DataW.trod_struct he BF;obtain⟨_,qS,M⟩:=World.cells?_some C;simp only[Ms]at o;refine⟨c,L,o.1,o.2,l,λj f q=>?_⟩;obtain⟨W,hk⟩:=hone_of N j f q;have p:=(IH.1 q).1;have Q:=M j p;have S:b[j]?=Φ (b[j]' J):=li J;have h1:=hf j f q;rw[W,hk]at h1
  have SP:(b.drop j).take 1=[b[j]' J]:=by
   rw[vT J]
   rfl
  rw[SP]at h1;have g:c[j]?=Φ (c[j]' J):=li J;refine⟨_,_,?_,g,h1.trans g⟩;rw[<-Go.Deep.add_add,Q,S]
end
def tX {H:Type}{P:Program}{e:TypeId}{d:DataW H}{l:δ (DataW H)}(a:d∈l){n:Nat}(c:n∈DataW.weights P e d):n∈DataW.weightsAll P e l:=by
 induction l with
 |nil=>cases a
 |cons x r b=>
  simp only[DataW.weightsAll,lh];rcases ip.1 a with rfl|h
  .exact .inl c
  .exact .inr (b h)
structure Left4 (W w':World):Prop where
 os:w'.os=W.os
 output:w'.output=W.output
 size:W.heap.size<=w'.heap.size
 block:∀k,k<W.heap.size->w'.heap[k]?=W.heap[k]?
def Left4.frame {W w':World}(h:Left4 W w')(a:MemPlace->Prop):W.keptBut w' a:=by
 refine⟨h.os,h.output,λi hi=>?_⟩;rw[h.block i hi]
 split<;>simp_all
def Left4.below {W w':World}(h:Left4 W w'):Below W.heap.size W {w' with tape:=W.tape}:=⟨h.os,rfl,h.output,h.size,h.block⟩
def Left4.trod {H:Type}{enc:TypeId×Value->H}{P:Program}{t:TypeId}(i:laidOutB P=θ)(g:P.readableRec t=θ)(f:t<P.types.size){W e:World}{v:Value}{d:DataW H}{ps:δ MemPlace}
 (h:DataW.Trod enc P W 0 (λ_=>true) true t v d ps) (j:Left4 W e) (a:∀x∈ps,x.block<W.heap.size):
 DataW.Trod enc P e 0 (λb=>decide (b<W.heap.size)) true t v d ps:=
 WideElems.Trod_stays i g f h (λx c=>by
  have:=j.below.same (a x c);cases x<;>exact this) (λx c=>by simpa using a x c)
def QR {f:Nat}{args:δ K}{d:Array Value}{W:World}(v:I0 f args (Kb W W.heap.size)=ν)(u:fp (C5 W W.heap.size) args d.toList)(h:Rq0 f args (Kb W W.heap.size) λy s=>y=.bool true/\Kp [] (Kb W W.heap.size) s):
 Calls Tryz.prog f d W λe w'=>e=.returned (.bool true)/\Left4 W w':=by
 obtain⟨y,Z',⟨_,r⟩,rfl,q⟩:=rC.abu CB UU v h;refine(r _ W d (aeG W _) u).mono ?_;rintro e w' ⟨v',p,rfl,D,i⟩;cases D;refine⟨rfl,i.os,i.output,i.size,λk l=>?_⟩
 by_cases n:∃b blk sz,(Kb W W.heap.size).m.g b=Φ blk/\C5 W W.heap.size b=Φ (k,sz)
 .obtain⟨b,blk,sz,j,a⟩:=n;have o:=(Fa j).1;obtain⟨_,c,t,lo,hi,C,_,rfl⟩:=Fa j;obtain⟨F,z,x⟩:=i.wr.at' b _ k sz ((q.keep b o V).trans j) (i.ext _ _ a);unfold C5 at a;rw[gq o]at a;simp only[S2,Ms]at a;obtain⟨rfl,_⟩:=a;cases x;rw[z,C]
 .exact i.kept k l λb blk sz j a=>n ⟨b,blk,sz,j,a⟩
def AZ {W:World}{a:Addr}{len cap:Nat}(f:∀j,j<cap->∃k,0<k/\∃v,W.cell? (a.add (j*k))=Φ v)(i:len<=cap):
 (qC W.heap.size (.slice (Φ a) len cap)=.oM/\len=0)\/∃b off,a=⟨b,off,ν⟩/\b<W.heap.size/\qC W.heap.size (.slice (Φ a) len cap)=.slice b off len cap 0:=by
 obtain⟨b,off,sp⟩:=a
 have e:0<cap->sp=ν/\b<W.heap.size:=λd=>by
  obtain⟨k,_,v,h⟩:=f 0 d;have h1:=World.cell?_spot h;have g:sp=ν:=by simpa[Addr.add]using h1
  subst g;refine⟨rfl,?_⟩;rcases wl b W.heap.size with c|c
  .exact c
  .simp[World.cell?,Addr.add,Array.getElem?_eq_none c]at h
 cases sp with
 |none=>
  by_cases c:b<W.heap.size
  .exact .inr ⟨b,off,rfl,c,by simp[qC,c]⟩
  .have d:cap=0:=by
    rcases Nat.eq_zero_or_pos cap with h|h
    .exact h
    .exact absurd (e h).2 c
   have:len=0:=J
   subst d this;exact .inl ⟨by simp[qC,c],rfl⟩
 |some x=>
  have d:cap=0:=by
   rcases Nat.eq_zero_or_pos cap with h|h
   .exact h
   .cases (e h).1
  have:len=0:=J
  subst d this;exact .inl ⟨rfl,rfl⟩
def ML {a:Type}{P:Nat->a->Prop}:∀n,(∀k,k<n->∃x,P k x)->∃S:δ a,S.length=n/\∀k (h:k<S.length),P k S[k]:=by
 intro n
 induction n with
 |zero=>intro _;exact⟨[],rfl,λk h=>Vu⟩
 |succ n d=>
  intro h;obtain⟨S,h1,f⟩:=d λk c=>h k J;obtain⟨x,e⟩:=h n J;refine⟨S++[x],à,λk c=>?_⟩
  by_cases b:k<S.length
  .rw[List.getElem_append_left b];exact f k b
  .have:k=n:=by simp at c;omega
   subst this;subst h1
   simpa using e
open Go Go.RowKit Go.ChangeShapes Go.WideShapes Go.Deep Go.Proofs
def uL:Tryz.prog.cellsOf 3=1:=uV
def MG:Tryz.prog.cellsOf 4=1:=uV
def MF:Tryz.prog.cellsOf 5=1:=uV
def GH:Tryz.prog.cellsOf 9=1:=uV
def X6:Tryz.prog.cellsOf 32=3:=uV
def X5:Tryz.prog.cellsOf 34=5:=uV
def X4:Tryz.prog.cellsOf 35=1:=uV
def X3:Tryz.prog.cellsOf 36=1:=uV
def X2:Tryz.prog.cellsOf 38=15:=uV
def X1:Tryz.prog.cellsOf 43=3:=uV
def Uu:Tryz.prog.cellsOf 118=5:=uV
section
variable {H:Type} {enc:TypeId×Value->H} {W:World} {fuel:Nat} {v:Value} {x:DataW H×δ MemPlace}
def Cv (b off i:Nat):(⟨b,off,ν⟩:Addr).add i=⟨b,off+i,ν⟩:=by unfold Addr.add;split<;>simp_all
def Ou {b o:Nat}{v:Value}{x:K}(h:W.cell? ⟨b,o,ν⟩=Φ v)(e:qC W.heap.size v=x):(Cp W W.heap.size b)[o]?=Φ x:=by
 obtain⟨_,_,a⟩:=xQ (N:=W.heap.size) h;rw[a,e]
def zA (N:Nat)(s:δ Γ):qC N (.string (iI s))=.str s:=by simp[qC,iI]
def FA {b:δ Value}{t:TypeId}(c:Tryz.prog.underlying t=Φ (.int .u8))(h:DataW.trod enc Tryz.prog W 0 (λ_=>true) true fuel t b=Φ x):∃n:Nat,b=[.int .u8 (n:Int)]:=by
 obtain⟨n,e,_,a⟩:=DataW.trod_int c h
 have:0<=n:=by
  simp only[Lit.wf,mZ,ws]at a;exact a.1
 exact⟨n.toNat,by rw[e,Int.toNat_of_nonneg this]⟩
def Ln (hf:DataW.trod enc Tryz.prog W 0 (λ_=>true) true fuel 35 [v]=Φ x)(z:∀n∈DataW.weights Tryz.prog 35 x.1,n<=140737488351232):
 ∃P:δ aT,Rd (Kb W W.heap.size) (qC W.heap.size v) 2 (P.map bR)/\P.length<=140737488355328/\∀p∈P,p.2.length<=140737488351232:=by
 rcases yg Tryz.underlying35 Tryz.underlying96 uV uV hf with⟨l,_⟩|⟨a,len,cap,m,D,Pl,l,_,hl,hm,q,L,hi⟩
 .have o:v=.slice ν 0 0:=by simpa using l
  subst o;exact⟨[],.inl (.inl ⟨rfl,rfl⟩),V,V⟩
 .have o:v=.slice (Φ a) len cap:=by simpa using l
  subst o;have r:m=cap:=q;subst r
  obtain⟨P,c,G⟩:=ML (P:=λk (p:aT)=>W.cell? (a.add (k*2+0))=Φ (.string (iI p.1))/\W.cell? (a.add (k*2+1))=Φ (.string (iI p.2))/\p.2.length<=140737488351232) len λk hk=>by
   obtain⟨y,n,hD,_,aa,g⟩:=hi k J;obtain⟨F,X,w,x0,t0⟩:=g 0 _ rfl;obtain⟨v1,y1,c1,x1,t1⟩:=g 1 _ rfl;obtain⟨ky,S,z0,_⟩:=DataW.trod_string Tryz.underlying9 t0;obtain⟨C,Q,T,_⟩:=DataW.trod_string Tryz.underlying9 t1;simp only[IP,and_true]at S Q;subst S Q;refine⟨(ky.data.toList,C.data.toList),?_,?_,?_⟩
   .rw[lZ];exact w
   .rw[lZ];exact c1
   .have I:∀n,n∈DataW.weights Tryz.prog 96 (D k)->n∈DataW.weights Tryz.prog 35 x.1:=λn hn=>by
     rw[L];simp only[DataW.weights,Tryz.underlying35,ip,lh];right;left;exact tX (lm.2 ⟨k,List.mem_range.2 hk,rfl⟩) hn
    have hw:DataW.weights Tryz.prog 96 (D k)=DataW.weightsEach Tryz.prog [9,9] (y.map (·.1)):=by
     rw[hD];simp[DataW.weights,Tryz.underlying96]
    rw[hw]at I;exact z _ (I C.data.toList.length (DataW.weights_mem_each (j:=1) (t:=9) rfl (by rw[ul,x1];rfl) _ (by rw[T];simp[DataW.weights])))
  have qS:P.length<=140737488355328:=by
   have s:Tryz.prog.bytesOf 96=32:=uV
   have:=z ((len+(m-len))*32) (by
    rw[L];simp only[DataW.weights,Tryz.underlying35,so,List.length_range,s,ip,true_or])
   rw[c];omega
  refine⟨P,?_,qS,λp hp=>?_⟩
  .rcases AZ (W:=W) (a:=a) (len:=len) (cap:=m) (λj d=>⟨2,J,by obtain⟨y,n,_,_,_,g⟩:=hi j d;obtain⟨F,X,w,_⟩:=g 0 _ rfl;exact⟨F,w⟩⟩) hl with⟨e,f⟩|⟨b,off,rfl,s,e⟩
   .rw[e];have:P=[]:=sS.1 J;subst this;exact .inr (.inl ⟨rfl,rfl⟩)
   .rw[e];refine .inr (.inr ⟨b,off,m,by rw[so,c],s,λi u=>?_⟩);have Y:i<P.length:=by simpa using u
    obtain⟨f,M,_⟩:=G i Y;simp only[Cv,<-ç,rc]at f M;obtain⟨ob,g1,_⟩:=xQ (N:=W.heap.size) f;refine⟨_,ob,g1,λj x d=>?_⟩;rw[S7]at d;rcases j with _|_|j
    .cases d;exact Ou f (zA _ _)
    .cases d;exact Ou M (zA _ _)
    .cases d
  .obtain⟨i,u,rfl⟩:=Di hp;exact(G i u).2.2
def LP (hf:DataW.trod enc Tryz.prog W 0 (λ_=>true) true fuel 36 [v]=Φ x)(xA:∀n∈DataW.weights Tryz.prog 36 x.1,n<=140737488351232):
 ∃Q:δ OA,Rd (Kb W W.heap.size) (qC W.heap.size v) 5 (Q.map CM)/\Q.length<=140737488355328:=by
 rcases open_slice Tryz.underlying36 hf with⟨T,_⟩|⟨a,len,cap,m,n,D,Pl,T,_,hl,hm,ag,hx,hi⟩
 .have hv:v=.slice ν 0 0:=by simpa using T
  subst hv;exact⟨[],.inl (.inl ⟨rfl,rfl⟩),V⟩
 .have hv:v=.slice (Φ a) len cap:=by simpa using T
  subst hv;have ah:m=cap:=ag;subst ah;rw[Uu]at hi
  have Tt:∀k,k<m->∃q:OA,∀j x,(CM q)[j]?=Φ x->∃y,W.cell? (a.add (k*5+j))=Φ y/\qC W.heap.size y=x:=λk hk=>by
   obtain⟨cs,hc,ht⟩:=hi k hk;obtain⟨I,w,_,_,l,ac,He⟩:=DataW.trod_struct Tryz.underlying118 ht;obtain⟨_,X,Y⟩:=World.cells?_some hc
   obtain⟨C,z,r,p,o,rfl⟩:∃C z r p o,cs=[C,z,r,p,o]:=by
    match cs,X with
    |[a,b,c,d,e],_=>exact⟨a,b,c,d,e,rfl⟩
   have s:∀j,j<3->∃y,I[j]?=Φ y:=λj g=>⟨_,li (by rw[ac];exact g)⟩;obtain⟨y0,af⟩:=s 0 J;obtain⟨y1,ae⟩:=s 1 J;obtain⟨y2,ad⟩:=s 2 J;have t0:DataW.trod enc Tryz.prog W 0 (λ_=>true) true w 3 [C]=Φ y0:=by have h:DataW.trod enc Tryz.prog W 0 (λ_=>true) true w 3 (([C,z,r,p,o].drop 0).take (Tryz.prog.cellsOf 3))=I[0]?:=He 0 _ rfl;rw[af,uL]at h;exact h
   have t1:DataW.trod enc Tryz.prog W 0 (λ_=>true) true w 3 [z]=Φ y1:=by have h:DataW.trod enc Tryz.prog W 0 (λ_=>true) true w 3 (([C,z,r,p,o].drop 1).take (Tryz.prog.cellsOf 3))=I[1]?:=He 1 _ rfl;rw[ae,uL]at h;exact h
   have t2:DataW.trod enc Tryz.prog W 0 (λ_=>true) true w 43 [r,p,o]=Φ y2:=by have h:DataW.trod enc Tryz.prog W 0 (λ_=>true) true w 43 (([C,z,r,p,o].drop 2).take (Tryz.prog.cellsOf 43))=I[2]?:=He 2 _ rfl;rw[ad,X1]at h;exact h
   obtain⟨G,u,_,_,_,Xd,S⟩:=DataW.trod_struct Tryz.underlying43 t2;have hz:∀j,j<3->∃y,G[j]?=Φ y:=λj g=>⟨_,li (by rw[Xd];exact g)⟩;obtain⟨z0,U7⟩:=hz 0 J;obtain⟨z1,ab⟩:=hz 1 J;obtain⟨z2,aa⟩:=hz 2 J;have u0:DataW.trod enc Tryz.prog W 0 (λ_=>true) true u 5 [r]=Φ z0:=by have h:DataW.trod enc Tryz.prog W 0 (λ_=>true) true u 5 (([r,p,o].drop 0).take (Tryz.prog.cellsOf 5))=G[0]?:=S 0 _ rfl;rw[U7,MF]at h;exact h
   have u1:DataW.trod enc Tryz.prog W 0 (λ_=>true) true u 4 [p]=Φ z1:=by have h:DataW.trod enc Tryz.prog W 0 (λ_=>true) true u 4 (([r,p,o].drop 1).take (Tryz.prog.cellsOf 4))=G[1]?:=S 1 _ rfl;rw[ab,MG]at h;exact h
   have u2:DataW.trod enc Tryz.prog W 0 (λ_=>true) true u 9 [o]=Φ z2:=by have h:DataW.trod enc Tryz.prog W 0 (λ_=>true) true u 9 (([r,p,o].drop 2).take (Tryz.prog.cellsOf 9))=G[2]?:=S 2 _ rfl;rw[aa,GH]at h;exact h
   obtain⟨c,e0,_⟩:=DataW.trod_int Tryz.underlying3 t0;obtain⟨i,e1,_⟩:=DataW.trod_int Tryz.underlying3 t1;obtain⟨kd,e2⟩:=FA Tryz.underlying5 u0;obtain⟨f,e3,_⟩:=DataW.trod_bool Tryz.underlying4 u1;obtain⟨M,e4,_⟩:=DataW.trod_string Tryz.underlying9 u2;simp only[IP,and_true]at e0 e1 e2 e3 e4;subst e0 e1 e2 e3 e4;have F:∀j,j<5->W.cell? (a.add (k*5+j))=[Value.int .i64 c,.int .i64 i,.int .u8 kd,.bool f,.string M][j]?:=λj g=>by rw[<-Go.Deep.add_add];exact Y j g
   refine⟨⟨c,i,kd,f,M.data.toList⟩,λj x g=>?_⟩;rcases j with _|_|_|_|_|j
   .cases g;exact⟨_,F 0 J,rfl⟩
   .cases g;exact⟨_,F 1 J,rfl⟩
   .cases g;exact⟨_,F 2 J,rfl⟩
   .cases g;exact⟨_,F 3 J,rfl⟩
   .cases g;exact⟨_,F 4 J,by rw[<-lZ M];exact zA _ _⟩
   .cases g
  obtain⟨Q,l,Y⟩:=ML (P:=λk (q:OA)=>∀j x,(CM q)[j]?=Φ x->∃y,W.cell? (a.add (k*5+j))=Φ y/\qC W.heap.size y=x) len λk hk=>Tt k J
  have X:Q.length<=140737488355328:=by
   have hb:Tryz.prog.bytesOf 118=40:=uV
   have:=xA ((len+(m-len))*40) (by
    rw[hx];simp only[DataW.weights,Tryz.underlying36,so,List.length_range,hb,ip,true_or])
   rw[l];omega
  refine⟨Q,?_,X⟩;rcases AZ (W:=W) (a:=a) (len:=len) (cap:=m) (λj g=>⟨5,J,by obtain⟨q,hq⟩:=Tt j g;obtain⟨y,s,_⟩:=hq 0 _ rfl;exact⟨y,s⟩⟩) hl with⟨e,L⟩|⟨b,off,rfl,hb,e⟩
  .rw[e];have:Q=[]:=sS.1 J;subst this;exact .inr (.inl ⟨rfl,rfl⟩)
  .rw[e];refine .inr (.inr ⟨b,off,m,by rw[so,l],hb,λi fB=>?_⟩);have xB:i<Q.length:=by simpa using fB
   have L:=Y i xB;simp only[Cv,<-ç,rc]at L;obtain⟨y,s,_⟩:=L 0 _ rfl;obtain⟨ob,g1,_⟩:=xQ (N:=W.heap.size) s;refine⟨_,ob,g1,λj x g=>?_⟩;rw[S7]at g;obtain⟨y,s,e⟩:=L j x g;exact Ou s e
def Ku (hf:DataW.trod enc Tryz.prog W 0 (λ_=>true) true fuel 22 [v]=Φ x)(xA:∀n∈DataW.weights Tryz.prog 22 x.1,n<=140737488351232):
 ∃S:δ StepT,DF (Kb W W.heap.size) (qC W.heap.size v) S/\S.length<=9223372036854775807/\∀p∈S,p.small:=by
 rcases open_slice Tryz.underlying22 hf with⟨tF,_⟩|⟨a,len,cap,m,n,D,Pl,tF,_,hl,hm,aC,hx,hi⟩
 .have hv:v=.slice ν 0 0:=by simpa using tF
  subst hv;exact⟨[],.inl ⟨.inl rfl,rfl⟩,V,V⟩
 .have hv:v=.slice (Φ a) len cap:=by simpa using tF
  subst hv;have aD:m=cap:=aC;subst aD;unfold maxLen at hm;rw[X2]at hi
  have Tt:∀k,k<m->∃p:StepT,(∃u w:K,(∀j x,(E8 p u w)[j]?=Φ x->∃y,W.cell? (a.add (k*15+j))=Φ y/\qC W.heap.size y=x)/\Rd (Kb W W.heap.size) u 2 (p.ps.map bR)/\Rd (Kb W W.heap.size) w 5 (p.ls.map CM))/\p.small:=λk hk=>by
   obtain⟨cs,hc,ht⟩:=hi k hk;obtain⟨M,d,_,an,ab,am,He⟩:=DataW.trod_struct Tryz.underlying38 ht;obtain⟨_,qS,mz⟩:=World.cells?_some hc
   obtain⟨Y,C,z,s,X,T,o,l,g,f,r,QE,QD,L,I,rfl⟩:∃Y C z s X T o l g f r QE QD L I,cs=[Y,C,z,s,X,T,o,l,g,f,r,QE,QD,L,I]:=by
    match cs,qS with
    |[a0,a1,a2,a3,a4,a5,a6,a7,a8,a9,aL,aI,aH,aG,aF],_=>exact⟨_,_,_,_,_,_,_,_,_,_,_,_,_,_,_,rfl⟩
   have G:∀j,j<9->∃y,M[j]?=Φ y:=λj c=>⟨_,li (by rw[am];exact c)⟩;obtain⟨y0,av⟩:=G 0 J;obtain⟨y1,au⟩:=G 1 J;obtain⟨y2,ar⟩:=G 2 J;obtain⟨y3,aq⟩:=G 3 J;obtain⟨y4,ag⟩:=G 4 J;obtain⟨y5,ap⟩:=G 5 J;obtain⟨y6,ao⟩:=G 6 J;obtain⟨y7,af⟩:=G 7 J;obtain⟨y8,ae⟩:=G 8 J;have t0:DataW.trod enc Tryz.prog W 0 (λ_=>true) true d 5 [Y]=Φ y0:=by have h:DataW.trod enc Tryz.prog W 0 (λ_=>true) true d 5 (([Y,C,z,s,X,T,o,l,g,f,r,QE,QD,L,I].drop 0).take (Tryz.prog.cellsOf 5))=M[0]?:=He 0 _ rfl;rw[av,MF]at h;exact h
   have t1:DataW.trod enc Tryz.prog W 0 (λ_=>true) true d 32 [C,z,s]=Φ y1:=by have h:DataW.trod enc Tryz.prog W 0 (λ_=>true) true d 32 (([Y,C,z,s,X,T,o,l,g,f,r,QE,QD,L,I].drop 1).take (Tryz.prog.cellsOf 32))=M[1]?:=He 1 _ rfl;rw[au,X6]at h;exact h
   have t2:DataW.trod enc Tryz.prog W 0 (λ_=>true) true d 3 [X]=Φ y2:=by have h:DataW.trod enc Tryz.prog W 0 (λ_=>true) true d 3 (([Y,C,z,s,X,T,o,l,g,f,r,QE,QD,L,I].drop 4).take (Tryz.prog.cellsOf 3))=M[2]?:=He 2 _ rfl;rw[ar,uL]at h;exact h
   have t3:DataW.trod enc Tryz.prog W 0 (λ_=>true) true d 3 [T]=Φ y3:=by have h:DataW.trod enc Tryz.prog W 0 (λ_=>true) true d 3 (([Y,C,z,s,X,T,o,l,g,f,r,QE,QD,L,I].drop 5).take (Tryz.prog.cellsOf 3))=M[3]?:=He 3 _ rfl;rw[aq,uL]at h;exact h
   have t4:DataW.trod enc Tryz.prog W 0 (λ_=>true) true d 34 [o,l,g,f,r]=Φ y4:=by have h:DataW.trod enc Tryz.prog W 0 (λ_=>true) true d 34 (([Y,C,z,s,X,T,o,l,g,f,r,QE,QD,L,I].drop 6).take (Tryz.prog.cellsOf 34))=M[4]?:=He 4 _ rfl;rw[ag,X5]at h;exact h
   have t5:DataW.trod enc Tryz.prog W 0 (λ_=>true) true d 3 [QE]=Φ y5:=by have h:DataW.trod enc Tryz.prog W 0 (λ_=>true) true d 3 (([Y,C,z,s,X,T,o,l,g,f,r,QE,QD,L,I].drop 11).take (Tryz.prog.cellsOf 3))=M[5]?:=He 5 _ rfl;rw[ap,uL]at h;exact h
   have t6:DataW.trod enc Tryz.prog W 0 (λ_=>true) true d 4 [QD]=Φ y6:=by have h:DataW.trod enc Tryz.prog W 0 (λ_=>true) true d 4 (([Y,C,z,s,X,T,o,l,g,f,r,QE,QD,L,I].drop 12).take (Tryz.prog.cellsOf 4))=M[6]?:=He 6 _ rfl;rw[ao,MG]at h;exact h
   have t7:DataW.trod enc Tryz.prog W 0 (λ_=>true) true d 35 [L]=Φ y7:=by have h:DataW.trod enc Tryz.prog W 0 (λ_=>true) true d 35 (([Y,C,z,s,X,T,o,l,g,f,r,QE,QD,L,I].drop 13).take (Tryz.prog.cellsOf 35))=M[7]?:=He 7 _ rfl;rw[af,X4]at h;exact h
   have t8:DataW.trod enc Tryz.prog W 0 (λ_=>true) true d 36 [I]=Φ y8:=by have h:DataW.trod enc Tryz.prog W 0 (λ_=>true) true d 36 (([Y,C,z,s,X,T,o,l,g,f,r,QE,QD,L,I].drop 14).take (Tryz.prog.cellsOf 36))=M[8]?:=He 8 _ rfl;rw[ae,X3]at h;exact h
   obtain⟨zs,n2,_,_,_,Xd,tQ⟩:=DataW.trod_struct Tryz.underlying32 t1;have hz:∀j,j<3->∃y,zs[j]?=Φ y:=λj c=>⟨_,li (by rw[Xd];exact c)⟩;obtain⟨z0,U7⟩:=hz 0 J;obtain⟨z1,al⟩:=hz 1 J;obtain⟨z2,ak⟩:=hz 2 J;have u0:DataW.trod enc Tryz.prog W 0 (λ_=>true) true n2 3 [C]=Φ z0:=by have h:DataW.trod enc Tryz.prog W 0 (λ_=>true) true n2 3 (([C,z,s].drop 0).take (Tryz.prog.cellsOf 3))=zs[0]?:=tQ 0 _ rfl;rw[U7,uL]at h;exact h
   have u1:DataW.trod enc Tryz.prog W 0 (λ_=>true) true n2 3 [z]=Φ z1:=by have h:DataW.trod enc Tryz.prog W 0 (λ_=>true) true n2 3 (([C,z,s].drop 1).take (Tryz.prog.cellsOf 3))=zs[1]?:=tQ 1 _ rfl;rw[al,uL]at h;exact h
   have u2:DataW.trod enc Tryz.prog W 0 (λ_=>true) true n2 3 [s]=Φ z2:=by have h:DataW.trod enc Tryz.prog W 0 (λ_=>true) true n2 3 (([C,z,s].drop 2).take (Tryz.prog.cellsOf 3))=zs[2]?:=tQ 2 _ rfl;rw[ak,uL]at h;exact h
   obtain⟨os,n3,_,ay,_,ax,aa⟩:=DataW.trod_struct Tryz.underlying34 t4;have ho:∀j,j<5->∃y,os[j]?=Φ y:=λj c=>⟨_,li (by rw[ax];exact c)⟩;obtain⟨o0,az⟩:=ho 0 J;obtain⟨o1,ai⟩:=ho 1 J;obtain⟨o2,Zq⟩:=ho 2 J;obtain⟨o3,ah⟩:=ho 3 J;obtain⟨o4,ac⟩:=ho 4 J;have s0:DataW.trod enc Tryz.prog W 0 (λ_=>true) true n3 5 [o]=Φ o0:=by have h:DataW.trod enc Tryz.prog W 0 (λ_=>true) true n3 5 (([o,l,g,f,r].drop 0).take (Tryz.prog.cellsOf 5))=os[0]?:=aa 0 _ rfl;rw[az,MF]at h;exact h
   have s1:DataW.trod enc Tryz.prog W 0 (λ_=>true) true n3 9 [l]=Φ o1:=by have h:DataW.trod enc Tryz.prog W 0 (λ_=>true) true n3 9 (([o,l,g,f,r].drop 1).take (Tryz.prog.cellsOf 9))=os[1]?:=aa 1 _ rfl;rw[ai,GH]at h;exact h
   have s2:DataW.trod enc Tryz.prog W 0 (λ_=>true) true n3 9 [g]=Φ o2:=by have h:DataW.trod enc Tryz.prog W 0 (λ_=>true) true n3 9 (([o,l,g,f,r].drop 2).take (Tryz.prog.cellsOf 9))=os[2]?:=aa 2 _ rfl;rw[Zq,GH]at h;exact h
   have s3:DataW.trod enc Tryz.prog W 0 (λ_=>true) true n3 9 [f]=Φ o3:=by have h:DataW.trod enc Tryz.prog W 0 (λ_=>true) true n3 9 (([o,l,g,f,r].drop 3).take (Tryz.prog.cellsOf 9))=os[3]?:=aa 3 _ rfl;rw[ah,GH]at h;exact h
   have s4:DataW.trod enc Tryz.prog W 0 (λ_=>true) true n3 4 [r]=Φ o4:=by have h:DataW.trod enc Tryz.prog W 0 (λ_=>true) true n3 4 (([o,l,g,f,r].drop 4).take (Tryz.prog.cellsOf 4))=os[4]?:=aa 4 _ rfl;rw[ac,MG]at h;exact h
   have lA:∀n,n∈DataW.weights Tryz.prog 38 (D k)->n∈DataW.weights Tryz.prog 22 x.1:=λn hn=>by
    rw[hx];simp only[DataW.weights,Tryz.underlying22,ip,lh]
    by_cases BS:k<len
    .right;left;exact tX (lm.2 ⟨k,List.mem_range.2 BS,rfl⟩) hn
    .right;right;refine tX (lm.2 ⟨k-len,List.mem_range.2 J,?_⟩) hn;rw[show len+(k-len)=k from J]
   have hD:D k=.agg (M.map (·.1)):=congrArg Prod.fst an
   have hw:DataW.weights Tryz.prog 38 (D k)=DataW.weightsEach Tryz.prog [5,32,3,3,34,3,4,35,36] (M.map (·.1)):=by
    rw[hD];simp[DataW.weights,Tryz.underlying38]
   rw[hw]at lA;have ac:y4.1=.agg (os.map (·.1)):=by rw[ay]
   have aw:DataW.weights Tryz.prog 34 y4.1=DataW.weightsEach Tryz.prog [5,9,9,9,4] (os.map (·.1)):=by
    rw[ac];simp[DataW.weights,Tryz.underlying34]
   have ad:∀n,n∈DataW.weightsEach Tryz.prog [5,9,9,9,4] (os.map (·.1))->n<=140737488351232:=λn hn=>xA n (lA n (DataW.weights_mem_each (j:=4) (t:=34) rfl (by rw[ul,ag];rfl) _ (by rw[aw];exact hn)));obtain⟨P,p1,p2,p3⟩:=Ln t7 λn hn=>xA n (lA n (DataW.weights_mem_each (j:=7) (t:=35) rfl (by rw[ul,af];rfl) _ hn));obtain⟨Q,q1,q2⟩:=LP t8 λn hn=>xA n (lA n (DataW.weights_mem_each (j:=8) (t:=36) rfl (by rw[ul,ae];rfl) _ hn));obtain⟨kd,e0⟩:=FA Tryz.underlying5 t0;obtain⟨pp,e1,_⟩:=DataW.trod_int Tryz.underlying3 u0;obtain⟨pq,e2,_⟩:=DataW.trod_int Tryz.underlying3 u1;obtain⟨pr,e3,_⟩:=DataW.trod_int Tryz.underlying3 u2;obtain⟨cl,e4,_⟩:=DataW.trod_int Tryz.underlying3 t2;obtain⟨id,e5,_⟩:=DataW.trod_int Tryz.underlying3 t3;obtain⟨ok,e6⟩:=FA Tryz.underlying5 s0;obtain⟨ky,e7,f7,_⟩:=DataW.trod_string Tryz.underlying9 s1;obtain⟨vl,e8,f8,_⟩:=DataW.trod_string Tryz.underlying9 s2;obtain⟨ol,e9,f9,_⟩:=DataW.trod_string Tryz.underlying9 s3;obtain⟨hd,Od,_⟩:=DataW.trod_bool Tryz.underlying4 s4;obtain⟨pt,XS,_⟩:=DataW.trod_int Tryz.underlying3 t5;obtain⟨la,aj,_⟩:=DataW.trod_bool Tryz.underlying4 t6;simp only[IP,and_true]at e0 e1 e2 e3 e4 e5 e6 e7 e8 e9 Od XS aj;subst e0 e1 e2 e3 e4 e5 e6 e7 e8 e9 Od XS aj;have b1:=ad ky.data.toList.length (DataW.weights_mem_each (j:=1) (t:=9) rfl (by rw[ul,ai];rfl) _ (by rw[f7];simp[DataW.weights]));have b2:=ad vl.data.toList.length (DataW.weights_mem_each (j:=2) (t:=9) rfl (by rw[ul,Zq];rfl) _ (by rw[f8];simp[DataW.weights]));have b3:=ad ol.data.toList.length (DataW.weights_mem_each (j:=3) (t:=9) rfl (by rw[ul,ah];rfl) _ (by rw[f9];simp[DataW.weights]));have F:∀j,j<15->W.cell? (a.add (k*15+j))=[Value.int .u8 kd,.int .i64 pp,.int .i64 pq,.int .i64 pr,.int .i64 cl,.int .i64 id,.int .u8 ok,.string ky,.string vl,.string ol,.bool hd,.int .i64 pt,.bool la,L,I][j]?:=λj c=>by rw[<-Go.Deep.add_add];exact mz j c
   refine⟨⟨kd,pp,pq,pr,cl,id,ok,ky.data.toList,vl.data.toList,ol.data.toList,hd,pt,la,P,Q⟩,⟨qC W.heap.size L,qC W.heap.size I,λj x c=>?_,p1,q1⟩,⟨p2,q2,λq hq=>by have:=p3 q hq;omega,afz,afz,afz⟩⟩;rcases j with _|_|_|_|_|_|_|_|_|_|_|_|_|_|_|j
   .cases c;exact⟨_,F 0 J,rfl⟩
   .cases c;exact⟨_,F 1 J,rfl⟩
   .cases c;exact⟨_,F 2 J,rfl⟩
   .cases c;exact⟨_,F 3 J,rfl⟩
   .cases c;exact⟨_,F 4 J,rfl⟩
   .cases c;exact⟨_,F 5 J,rfl⟩
   .cases c;exact⟨_,F 6 J,rfl⟩
   .cases c;exact⟨_,F 7 J,by rw[<-lZ ky];exact zA _ _⟩
   .cases c;exact⟨_,F 8 J,by rw[<-lZ vl];exact zA _ _⟩
   .cases c;exact⟨_,F 9 J,by rw[<-lZ ol];exact zA _ _⟩
   .cases c;exact⟨_,F 10 J,rfl⟩
   .cases c;exact⟨_,F 11 J,rfl⟩
   .cases c;exact⟨_,F 12 J,rfl⟩
   .cases c;exact⟨_,F 13 J,rfl⟩
   .cases c;exact⟨_,F 14 J,rfl⟩
   .cases c
  obtain⟨S,ab,mz⟩:=ML (P:=λk (p:StepT)=>(∃u w:K,(∀j x,(E8 p u w)[j]?=Φ x->∃y,W.cell? (a.add (k*15+j))=Φ y/\qC W.heap.size y=x)/\Rd (Kb W W.heap.size) u 2 (p.ps.map bR)/\Rd (Kb W W.heap.size) w 5 (p.ls.map CM))/\p.small) len λk hk=>Tt k J;refine⟨S,?_,J,λp hp=>?_⟩
  .rcases AZ (W:=W) (a:=a) (len:=len) (cap:=m) (λj c=>⟨15,J,by obtain⟨p,⟨u,w,hq,_⟩,_⟩:=Tt j c;obtain⟨y,G,_⟩:=hq 0 _ rfl;exact⟨y,G⟩⟩) hl with⟨e,h0⟩|⟨b,off,rfl,hb,e⟩
   .rw[e];exact .inl ⟨.inr rfl,sS.1 J⟩
   .rw[e];refine .inr ⟨b,off,m,by rw[ab],hb,λi fB=>?_⟩;obtain⟨⟨u,w,h0,h1,h2⟩,_⟩:=mz i fB;simp only[Cv,<-ç,rc]at h0;obtain⟨y,G,_⟩:=h0 0 _ rfl;obtain⟨ob,g1,_⟩:=xQ (N:=W.heap.size) G;refine⟨_,ob,u,w,g1,λj x c=>?_,h1,h2⟩;obtain⟨y,G,e⟩:=h0 j x c;exact Ou G e
  .obtain⟨i,fB,rfl⟩:=Di hp;exact(mz i fB).2
end
open Go Go.RowKit Go.ChangeShapes Go.WideShapes Go.Deep Go.Proofs
def walk3 {H:Type}{enc:TypeId×Value->H}{W:World}{j:Nat}{c:Value}{b:DataW H×δ MemPlace}(n:Int)
 (i:DataW.trod enc Tryz.prog W 0 (λ_=>true) true j 22 [c]=Φ b) (d:∀n∈DataW.weights Tryz.prog 22 b.1,n<=140737488351232):
 Calls Tryz.prog 3 #[.int .i64 n,c] W λe w'=>e=.returned (.bool true)/\Left4 W w':=by
 obtain⟨S,g,f,a⟩:=Ku i d;exact QR rfl (fp.cons (.int _ _) (fp.cons (Oj ..) (fp.nil _))) (aaW g (OS (hI _)) f a n)
