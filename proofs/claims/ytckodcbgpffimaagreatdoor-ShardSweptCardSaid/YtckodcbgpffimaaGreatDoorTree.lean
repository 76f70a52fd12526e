import Derived.Test.YtckodcbgpffimaaGreatDoorPagA
namespace Lim
open Go
noncomputable section
set_option linter.defProp false
abbrev bS:=List UInt8
def eI (a b:bS):Prop:=Op.bytesLess a b=true
instance (a b:bS):Decidable (eI a b):=by unfold eI;infer_instance
def lO (a b:bS):Prop:=¬eI b a
instance (a b:bS):Decidable (lO a b):=by unfold lO;infer_instance
def gN (a b:UInt8)(x y:bS):eI (a::x) (b::y)↔a<b\/(a=b/\eI x y):=by
 unfold eI;simp[Op.bytesLess]
def kO (a:bS):¬eI a []:=by unfold eI;cases a<;>simp[Op.bytesLess]
def FZ (a:UInt8)(x:bS):eI [] (a::x):=by unfold eI;simp[Op.bytesLess]
def hU (a:bS):¬eI a a:=by
 induction a with
 |nil=>exact kO _
 |cons a x b=>rw[gN];rintro(h|⟨_,h⟩);exact absurd h (SG a);exact b h
def gu {a b c:bS}(h:eI a b)(k:eI b c):eI a c:=by
 induction a generalizing b c with
 |nil=>cases c with
  |nil=>exact absurd k (kO _)
  |cons c z=>exact FZ _ _
 |cons a x d=>
  cases b with
  |nil=>exact absurd h (kO _)
  |cons b y=>
   cases c with
   |nil=>exact absurd k (kO _)
   |cons c z=>
    rw[gN]at*;rcases h with h|⟨rfl,h⟩<;>rcases k with k|⟨rfl,k⟩
    .exact .inl (UInt8.lt_trans h k)
    .exact .inl h
    .exact .inl k
    .exact .inr ⟨rfl,d h k⟩
def Pw (a b:bS):eI a b\/a=b\/eI b a:=by
 induction a generalizing b with
 |nil=>cases b with
  |nil=>exact .inr (.inl rfl)
  |cons b y=>exact .inl (FZ _ _)
 |cons a x c=>
  cases b with
  |nil=>exact .inr (.inr (FZ _ _))
  |cons b y=>
   rw[gN,gN];rcases aOb a.toNat b.toNat with h|h|h
   .exact .inl (.inl (UInt8.lt_iff_toNat_lt.2 h))
   .have e:=aNZ.1 h;subst e;rcases c y with h|rfl|h
    .exact .inl (.inr ⟨rfl,h⟩)
    .exact .inr (.inl rfl)
    .exact .inr (.inr (.inr ⟨rfl,h⟩))
   .exact .inr (.inr (.inl (UInt8.lt_iff_toNat_lt.2 h)))
def mc {a b:bS}(h:eI a b):¬eI b a:=λk=>hU _ (gu h k)
def Bx (a:bS):lO a a:=hU a
def eI.le {a b:bS}(h:eI a b):lO a b:=mc h
def qO {a b:bS}:lO a b↔eI a b\/a=b:=by
 constructor
 .intro h;rcases Pw a b with h1|h1|h1;exact .inl h1;exact .inr h1;exact absurd h1 h
 .rintro(h|rfl);exact h.le;exact Bx _
def lO.pT {a b c:bS}(h:lO a b)(k:eI b c):eI a c:=by
 rcases qO.1 h with h|rfl;exact gu h k;exact k
def eI.kI {a b c:bS}(h:eI a b)(k:lO b c):eI a c:=by
 rcases qO.1 k with k|rfl;exact gu h k;exact h
def lO.trans {a b c:bS}(h:lO a b)(k:lO b c):lO a c:=by
 rcases qO.1 k with k|rfl;exact(h.pT k).le;exact h
def Ei (a b:bS):lO a b\/eI b a:=by by_cases h:eI b a;exact .inr h;exact .inl h
def Nk (a:bS):lO [] a:=kO a
def eI.ne {a b:bS}(h:eI a b):a≠b:=λe=>by subst e;exact hU _ h
def yr {a b:bS}(h:lO a b)(k:lO b a):a=b:=by
 rcases qO.1 h with h|h;exact absurd h k;exact h
def Nu (a b:bS):Op.bytesLess a b=decide (eI a b):=by
 by_cases h:eI a b
 .rw[jp h];exact h
 .rw[jo h];simpa[eI]using h
def abM (a b:bS):(Op.bytesLess a b||(a==b))=decide (lO a b):=by
 rw[Nu,Ã];simp[qO]
def adX (a b:bS):(!(Op.bytesLess a b))=decide (lO b a):=by rw[Ã];simp[lO,eI]
@[simp] def RW (a b:bS)(Z:O):sO .lss a b Z=.ok (.bool (decide (eI a b))) Z:=by rw[<-Nu];rfl
@[simp] def RX (a b:bS)(Z:O):sO .leq a b Z=.ok (.bool (decide (lO a b))) Z:=by rw[<-abM];rfl
@[simp] def xW (a b:bS)(Z:O):sO .geq a b Z=.ok (.bool (decide (lO b a))) Z:=by rw[<-adX];rfl
@[simp] def rK (a b:bS)(Z:O):sO .eql a b Z=.ok (.bool (decide (a=b))) Z:=by
  have:(a==b)=decide (a=b):=by rw[Ã];simp
  rw[<-this];rfl
@[simp] def um (a b:bS)(Z:O):sO .neq a b Z=.ok (.bool (!decide (a=b))) Z:=by
  have:(a==b)=decide (a=b):=by rw[Ã];simp
  rw[<-this];rfl
structure dq where
 key:bS
 value:List UInt8
 dX:Nat
 size:Nat
deriving DecidableEq
structure bp where
 leaf:Bool
 cells:List dq
 kids:List Nat
deriving DecidableEq
def jz (leaf:Bool)(c:dq):List UInt8:=
 uv c.key.length++(c.key++(if leaf=true then (if c.dX=0 then uv 0++(uv c.value.length++c.value)else uv c.dX++uv c.size)else []))
def cY (leaf:Bool)(l:List dq):List UInt8:=(l.map (jz leaf)).flatten
def fo (l:List Nat):List UInt8:=(l.map uv).flatten
def oo (n:bp):List UInt8:=uv (if n.leaf=true then 1 else 0)++(uv n.cells.length++(cY n.leaf n.cells++(if n.leaf=true then []else fo n.kids)))
def bp.size (n:bp):Nat:=(oo n).length
abbrev kj:Nat:=2147483647
structure dq.ok (leaf:Bool)(c:dq):Prop where
 key:c.key.length<=48
 inner:leaf=false->c.value=[]/\c.dX=0/\c.size=0
 short:leaf=true->c.dX=0->c.size=0/\c.value.length<=64
 far:leaf=true->c.dX≠0->c.value=[]/\c.dX<=kj/\1<=c.size/\c.size<=kj
def jJ (l:List dq):Prop:=l.Pairwise λa b=>eI a.key b.key
structure bp.ok (n:bp):Prop where
 cell:∀c∈n.cells,c.ok n.leaf
 sorted:jJ n.cells
 kR:n.kids.length=if n.leaf=true then 0 else n.cells.length+1
 Ek:∀k∈n.kids,k<=kj
def EX (n:Nat):1<=(uv n).length:=by by_cases a:127<n;rw[jI a];simp;rw[kH J];simp
def eY {n:Nat}(h:n<=127):(uv n).length=1:=by rw[kH h];rfl
def sF {n:Nat}(h:n<=16383):(uv n).length<=2:=by
 by_cases a:127<n
 .rw[jI a,lx,eY J];omega
 .rw[eY J];omega
def xJ {m n:Nat}(h:m<=n):(uv m).length<=(uv n).length:=by
 induction n using Nat.strongRecOn generalizing m with
 |_ n a=>
  by_cases b:127<m
  .have hn:127<n:=by omega
   rw[jI b,jI hn,lx,lx];have:= @a (n/128) J (m/128) (Nat.div_le_div_right h);omega
  .rw[eY J];exact EX n
def kg {leaf:Bool}{c:dq}(h:c.ok leaf):1<=(jz leaf c).length/\(jz leaf c).length<=115/\(leaf=false->(jz leaf c).length<=49):=by
 have j:(uv c.key.length).length=1:=eY (by have:=h.key;omega);have h2:=h.key;cases leaf with
 |false=>unfold jz;simp;omega
 |true=>
  unfold jz
  by_cases a:c.dX=0
  .obtain⟨f,d⟩:=h.short rfl a;have e:(uv c.value.length).length=1:=eY J;have b:(uv 0).length=1:=eY J;simp[a];omega
  .obtain⟨f,d,e,b⟩:=h.far rfl a;have i:=(gf c.dX d).2;have g:=(gf c.size b).2;simp[a];omega
def eQ (leaf:Bool)(a b:List dq):cY leaf (a++b)=cY leaf a++cY leaf b:=by simp[cY]
def fU (leaf:Bool)(c:dq)(b:List dq):cY leaf (c::b)=jz leaf c++cY leaf b:=by simp[cY]
def jO (a b:List Nat):fo (a++b)=fo a++fo b:=ð
def qj (k:Nat)(b:List Nat):fo (k::b)=uv k++fo b:=ð
def fD (leaf:Bool)(l:List dq):l.length<=(cY leaf l).length:=by
 induction l with
 |nil=>simp
 |cons c l a=>
  rw[fU,km,lx];have:=EX c.key.length;have:1<=(jz leaf c).length:=by unfold jz;rw[km];omega
  omega
def cq (n:bp):n.size=1+((uv n.cells.length).length+((cY n.leaf n.cells).length+(if n.leaf=true then 0 else (fo n.kids).length))):=by
 unfold bp.size oo;have:(uv (if n.leaf=true then 1 else 0)).length=1:=eY Ys;rw[km,km,km,this]
 split<;>simp
def bp.find (n:bp)(key:bS):Nat:=n.cells.findIdx λc=>decide (lO key c.key)
def cM (n:bp)(i:Nat):bp×bS×bp:=
 if n.leaf=true then (⟨true,n.cells.take i,[]⟩,(n.cells[i]?.map (·.key)).getD [],⟨true,n.cells.drop i,[]⟩)
 else (⟨false,n.cells.take i,n.kids.take (i+1)⟩,(n.cells[i]?.map (·.key)).getD [],⟨false,n.cells.drop (i+1),n.kids.drop (i+1)⟩)
def iG (n:bp)(i:Nat):Nat:=((cM n i).1.size-(cM n i).2.2.size)+((cM n i).2.2.size-(cM n i).1.size)
def uP (n:bp):Nat->Nat->Nat->Nat
 |0,_,b=>b
 |f+1,i,b=>uP n f (i+1) (if iG n i<iG n b then i else b)
def cF (n:bp):Nat:=if n.leaf=true then 1 else 0
def iZ (n:bp):Nat:=uP n (n.cells.length-(cF n+1)) (cF n+1) (cF n)
def zC (n:bp):bp×bS×bp:=cM n (iZ n)
def gU (k:bS):dq:=⟨k,[],0,0⟩
def dK (a:bp)(c:bS)(b:bp):bp:=if a.leaf=true then ⟨true,a.cells++b.cells,[]⟩else ⟨false,a.cells++(gU c::b.cells),a.kids++b.kids⟩
def MI (n:bp)(f:Nat):∀(i b:Nat),b<i->(uP n f i b=b\/(i<=uP n f i b/\uP n f i b<i+f))/\iG n (uP n f i b)<=iG n b/\∀j,i<=j->j<i+f->iG n (uP n f i b)<=iG n j:=by
 induction f with
 |zero=>intro i b m;exact⟨.inl rfl,hI _,λj e a=>J⟩
 |succ f l=>
  intro i b m;simp only[uP];obtain⟨e,a,k⟩:=l (i+1) (if iG n i<iG n b then i else b) Ys;generalize p:uP n f (i+1) (if iG n i<iG n b then i else b)=r at*
  by_cases g:iG n i<iG n b
  .rw[gq g]at e a;refine⟨.inr J,J,λj d o=>?_⟩;rcases aNy d with rfl|c
   .exact a
   .exact k j c J
  .rw[B g]at e a;refine⟨J,a,λj d o=>?_⟩;rcases aNy d with rfl|c
   .omega
   .exact k j c J
def Ai (n:bp)(h:cF n<n.cells.length):cF n<=iZ n/\iZ n<n.cells.length/\∀j,cF n<=j->j<n.cells.length->iG n (iZ n)<=iG n j:=by
 obtain⟨f,d,c⟩:=MI n (n.cells.length-(cF n+1)) (cF n+1) (cF n) (ã _);unfold iZ;refine⟨J,J,λj b e=>?_⟩;rcases aNy b with rfl|a
 .exact d
 .exact c j a J
def pR {leaf:Bool}{l:List dq}(h:∀c∈l,c.ok leaf):(cY leaf l).length<=l.length*115:=by
 induction l with
 |nil=>simp[cY]
 |cons c l a=>
  rw[fU,km,lx];have:=(kg (h c V)).2.1;have:=a λc b=>h c (by simp[b]);omega
def rU {l:List Nat}(h:∀k∈l,k<=kj):(fo l).length<=l.length*5:=by
 induction l with
 |nil=>simp[fo]
 |cons k l a=>
  rw[qj,km,lx];have:=(gf k (h k V)).2;have:=a λc b=>h c (by simp[b]);omega
def AX {a:Type}(l:List a)(i:Nat)(h:i<l.length):l.take (i+1)=l.take i++[l[i]]:=su h
def yE {a:Type}(l:List a)(i:Nat)(h:i<l.length):l.drop i=l[i]::l.drop (i+1):=vT h
structure J0 (n:bp):Prop where
 up:∀i,cF n<=i->i+1<n.cells.length->(cM n (i+1)).1.size<=(cM n i).1.size+116
 down:∀i,cF n<=i->i+1<n.cells.length->(cM n i).2.2.size<=(cM n (i+1)).2.2.size+116
 sum:∀i,cF n<=i->i<n.cells.length->n.size<=(cM n i).1.size+(cM n i).2.2.size+49/\(cM n i).1.size+(cM n i).2.2.size<=n.size+4
 head:cF n<n.cells.length->(cM n (cF n)).1.size<=if n.leaf=true then 117 else 7
 last:∀i,cF n<=i->i+1=n.cells.length->(cM n i).2.2.size<=if n.leaf=true then 117 else 7
def Um {n:bp}(h:n.ok)(u:n.cells.length<=16000):J0 n:=by
 obtain⟨leaf,cells,a⟩:=n;have hc:=h.cell;have s:=h.kR;have p:=h.Ek;simp only at hc s p u;have d:∀i,i<=16383->1<=(uv i).length/\(uv i).length<=2:=λi hi=>⟨EX i,sF hi⟩;cases leaf with
 |true=>
  have j:∀i,(cM ⟨true,cells,a⟩ i).1=⟨true,cells.take i,[]⟩:=λi=>rfl;have g:∀i,(cM ⟨true,cells,a⟩ i).2.2=⟨true,cells.drop i,[]⟩:=λi=>rfl;have o:cF ⟨true,cells,a⟩=1:=rfl
  have r:∀i,(cY true (cells.take i)).length+(cY true (cells.drop i)).length=(cY true cells).length:=λi=>by
   rw[<-km,<-eQ,CV]
  refine⟨λi f b=>?_,λi f b=>?_,λi f b=>?_,λf=>?_,λi f b=>?_⟩
  .simp only at b;rw[j,j,cq,cq];simp only[ix,pu];rw[AX cells i J,eQ,km];have e:=(kg (hc _ (mp (show i<cells.length from J)))).2.1;have w:(cY true [cells[i]' J]).length=(jz true (cells[i]' J)).length:=by simp[cY]
   have:=d (min (i+1) cells.length) J;have:=d (min i cells.length) J;omega
  .simp only at b;rw[g,g,cq,cq];simp only[ix,st];rw[yE cells i J,fU,km];have e:=(kg (hc _ (mp (show i<cells.length from J)))).2.1;have:=d (cells.length-(i+1)) J;have:=d (cells.length-i) J;omega
  .simp only at b;rw[j,g,cq,cq,cq];simp only[ix,st,pu];have:=r i;have:=d (min i cells.length) J;have:=d (cells.length-i) J;have:=d cells.length J;omega
  .simp only[o]at f;rw[o,j,cq];simp only[ix,pu];have k:(cells.take 1).length=1:=by rw[pu];omega
   have e:=pR (leaf:=true) (l:=cells.take 1) λc h=>hc c (ww h);rw[k]at e;have:(uv (min 1 cells.length)).length=1:=eY J;omega
  .simp only[o]at f;simp only at b;rw[g,cq];simp only[ix,st];have k:(cells.drop i).length=1:=by rw[st];omega
   have e:=pR (leaf:=true) (l:=cells.drop i) λc h=>hc c (zR h);rw[k]at e;have:(uv (cells.length-i)).length=1:=eY J;omega
 |false=>
  simp only[pi,ii]at s;have j:∀i,(cM ⟨false,cells,a⟩ i).1=⟨false,cells.take i,a.take (i+1)⟩:=λi=>rfl;have g:∀i,(cM ⟨false,cells,a⟩ i).2.2=⟨false,cells.drop (i+1),a.drop (i+1)⟩:=λi=>rfl;have o:cF ⟨false,cells,a⟩=0:=rfl
  have r:∀i (h:i<cells.length),(cY false (cells.take i)).length+((jz false cells[i]).length+(cY false (cells.drop (i+1))).length)=(cY false cells).length:=λi h=>by
   rw[<-km,<-fU,<-yE cells i h,<-km,<-eQ,CV]
  have q:∀i,(fo (a.take i)).length+(fo (a.drop i)).length=(fo a).length:=λi=>by
   rw[<-km,<-jO,CV]
  have m:∀i (h:i<cells.length),1<=(jz false cells[i]).length/\(jz false cells[i]).length<=49:=λi h=>by
   have:=kg (hc _ (mp h));exact⟨this.1,this.2.2 rfl⟩
  refine⟨λi f b=>?_,λi f b=>?_,λi f b=>?_,λf=>?_,λi f b=>?_⟩
  .simp only at b;rw[j,j,cq,cq];simp only[pi,ii,pu];rw[AX cells i J,eQ,km,AX a (i+1) J,jO,km];have e:=m i J;have w:(cY false [cells[i]' J]).length=(jz false (cells[i]' J)).length:=by simp[cY]
   have x:(fo [a[i+1]' J]).length=(uv (a[i+1]' J)).length:=ð
   have v:=(gf _ (p _ (mp (show i+1<a.length from J)))).2;have:=d (min (i+1) cells.length) J;have:=d (min i cells.length) J;omega
  .simp only at b;rw[g,g,cq,cq];simp only[pi,ii,st];rw[yE cells (i+1) J,fU,km,yE a (i+1) J,qj,km];have e:=m (i+1) J;have v:=(gf _ (p _ (mp (show i+1<a.length from J)))).2;have:=d (cells.length-(i+1+1)) J;have:=d (cells.length-(i+1)) J;omega
  .simp only at b;rw[j,g,cq,cq,cq];simp only[pi,ii,st,pu];have:=r i b;have:=q (i+1);have:=m i b;have:=d (min i cells.length) J;have:=d (cells.length-(i+1)) J;have:=d cells.length J;omega
  .rw[o,j,cq];simp only[pi,ii,pu];have e:=rU (l:=a.take (0+1)) λc h=>p c (ww h);have k:(a.take (0+1)).length=1:=by rw[pu];omega
   rw[k]at e;have:(uv 0).length=1:=eY J;simp only[oa]at e;simp[cY];omega
  .simp only at b;rw[g,cq];simp only[pi,ii,st];have e:=rU (l:=a.drop (i+1)) λc h=>p c (zR h);have k:(a.drop (i+1)).length=1:=by rw[st];omega
   rw[k]at e;have:(uv (cells.length-(i+1))).length=1:=eY J;have:cells.drop (i+1)=[]:=ys J;rw[this];simp[cY];omega
def Ul {n:bp}(h:J0 n)(b:cF n<n.cells.length)(f:513<=n.size):∃j,cF n<=j/\j<n.cells.length/\iG n j<=232:=by
 have key:∀k,cF n+k<n.cells.length->(cM n (cF n+k)).1.size<=(cM n (cF n+k)).2.2.size\/∃j,cF n<=j/\j<n.cells.length/\iG n j<=232:=by
  intro k
  induction k with
  |zero=>
   intro a;have:=h.head b;have:(if n.leaf=true then 117 else 7)<=117:=Ys
   have:=(h.sum (cF n) (hI _) b).1;left;simp only[rc];omega
  |succ k d=>
   intro a;rcases d (by omega)with h2|h2
   .by_cases c:(cM n (cF n+(k+1))).1.size<=(cM n (cF n+(k+1))).2.2.size
    .exact .inl c
    .right;refine⟨cF n+(k+1),J,a,?_⟩;have i:=h.up (cF n+k) J J;have g:=h.down (cF n+k) J J;have e:cF n+(k+1)=cF n+k+1:=by omega
     rw[e]at c⊢;unfold iG;omega
   .exact .inr h2
 rcases key (n.cells.length-1-cF n) (by omega)with h2|h2
 .have e:cF n+(n.cells.length-1-cF n)=n.cells.length-1:=by omega
  rw[e]at h2;have:=h.last (n.cells.length-1) J J;have:(if n.leaf=true then 117 else 7)<=117:=Ys
  have:=(h.sum (n.cells.length-1) J J).1;omega
 .exact h2
def sI {l:List dq}(h:jJ l)(i:Nat):jJ (l.take i):=h.sublist (List.take_sublist _ _)
def sJ {l:List dq}(h:jJ l)(i:Nat):jJ (l.drop i):=h.sublist (List.drop_sublist _ _)
structure CE (n a b:bp)(i:Nat)(s:bS):Prop where
 lt:i<n.cells.length
 okA:a.ok
 okB:b.ok
 szA:a.size<=512
 szB:b.size<=512
 neA:a.cells≠[]
 neB:b.cells≠[]
 key:s=(n.cells[i]'lt).key
 eqs:(n.leaf=true/\a=⟨true,n.cells.take i,[]⟩/\b=⟨true,n.cells.drop i,[]⟩)\/(n.leaf=false/\a=⟨false,n.cells.take i,n.kids.take (i+1)⟩/\b=⟨false,n.cells.drop (i+1),n.kids.drop (i+1)⟩)
def Uk {n:bp}(h:n.ok)(g:512<n.size)(G:n.size<=760):∃i,i=iZ n/\CE n (zC n).1 (zC n).2.2 i (zC n).2.1:=by
 have u:n.cells.length<=760:=by
  have:=fD n.leaf n.cells;rw[cq]at G;omega
 have m:=Um h J
 have s:cF n<n.cells.length:=by
  have w:=pR (leaf:=n.leaf) (l:=n.cells) h.cell;have L:=rU (l:=n.kids) h.Ek;have v:=h.kR;have:(uv n.cells.length).length<=2:=sF J;rw[cq]at g;unfold cF;cases hl:n.leaf with
  |true=>rw[hl]at g w;simp only[ix]at g⊢;omega
  |false=>rw[hl]at g w v;simp only[pi,ii]at g v⊢;omega
 obtain⟨o,f,H⟩:=Ai n s;obtain⟨j,C,z,y⟩:=Ul m s J;have F:=H j C z;obtain⟨x,s2⟩:=m.sum (iZ n) o f;have D:(cM n (iZ n)).1.size<=(cM n (iZ n)).2.2.size+232/\(cM n (iZ n)).2.2.size<=(cM n (iZ n)).1.size+232:=by unfold iG at F y;omega
 have p:cF n<iZ n\/n.leaf=true:=by
  rcases aNy o with e|e
  .have:=m.head s;rw[<-e]at D x s2;cases hl:n.leaf with
   |true=>exact .inr rfl
   |false=>rw[hl,B tW]at this;omega
  .exact .inl e
 have q:iZ n+1<n.cells.length\/n.leaf=true:=by
  rcases aNy (show iZ n+1<=n.cells.length from f)with e|e
  .have:=m.last (iZ n) o e;cases hl:n.leaf with
   |true=>exact .inr rfl
   |false=>rw[hl,B tW]at this;omega
  .exact .inl e
 refine⟨iZ n,rfl,?_⟩;unfold zC;generalize iZ n=i at*;obtain⟨leaf,cells,a⟩:=n;cases leaf with
 |true=>
  have r:1<=i:=o;simp only at f;refine⟨f,⟨λc d=>h.cell c (ww d),sI h.sorted _,rfl,λk b=>by simp[cM]at b⟩,⟨λc d=>h.cell c (zR d),sJ h.sorted _,rfl,λk b=>by simp[cM]at b⟩,J,J,?_,?_,?_,.inl ⟨rfl,rfl,rfl⟩⟩
  .intro e;have:=congrArg List.length e;simp only[cM,ix,pu,IR]at this;omega
  .intro e;have:=congrArg List.length e;simp only[cM,ix,st,IR]at this;omega
  .simp[cM,li f]
 |false=>
  have r:cF ⟨false,cells,a⟩<i:=by rcases p with h|h;exact h;cases h
  have r:=r;have I:i+1<cells.length:=by rcases q with h|h;exact h;cases h
  have b:a.length=cells.length+1:=h.kR;refine⟨f,⟨λc d=>h.cell c (ww d),sI h.sorted _,?_,λk b=>h.Ek k (ww b)⟩,⟨λc d=>h.cell c (zR d),sJ h.sorted _,?_,λk b=>h.Ek k (zR b)⟩,J,J,?_,?_,?_,.inr ⟨rfl,rfl,rfl⟩⟩
  .simp[cM];omega
  .simp[cM];omega
  .intro e;have:=congrArg List.length e;simp only[cM,pi,ii,pu,IR]at this;omega
  .intro e;have:=congrArg List.length e;simp only[cM,pi,ii,st,IR]at this;omega
  .simp[cM,li f]
section
variable {ks:List Nat}{ss:List bS}{ps:List Nat}{k:Nat}{s:bS}{k1 k2:List Nat}{s1 s2:List bS}{lN:bS}
inductive PC where
 |node (n:bp)
 |dX (next:Nat) (data:List UInt8)
 |blank
def AY (l:List Nat)(n:Nat):(ib l n).length<=l.length+1:=by
 induction l with
 |nil=>simp[ib]
 |cons p r a=>simp only[ib];split<;>simp only[lx]<;>omega
def Ky (l:List Nat)(n:Nat):ib (ib l n) n=ib l n:=by
 induction l with
 |nil=>simp[ib]
 |cons p r a=>
  simp only[ib]
  split
  .rename_i h;simp only[ib,gq h]
  .rename_i h;simp only[ib,B h,a]
structure GM where
 aO:Nat
 used:Nat
 root:Nat
 fr:List Nat
 cont:Nat->PC
 eu:List Nat
def GM.bV (G:GM)(n:Nat):Prop:=0<n/\n<G.used/\n∉G.fr
structure wb (G:GM):Prop where
 one:1<=G.used
 jT:G.used<=G.aO
 size:G.aO<=65536
 nd:G.fr.Nodup
 fr:∀n∈G.fr,0<n/\n<G.used
def GM.bT (G:GM):Nat:=G.aO-G.used+G.fr.length
def GM.put (G:GM)(n:Nat)(x:PC):GM:={G with cont:=λq=>if q=n then x else G.cont q,eu:=ib G.eu n}
def GM.dI (G:GM):Nat:=match G.fr with|[]=>G.used|n::_=>n
def GM.alloc (G:GM):GM:=match G.fr with
 |[]=>{G with used:=G.used+1,cont:=λq=>if q=G.used then .blank else G.cont q,eu:=ib G.eu G.used}
 |n::r=>{G with fr:=r,cont:=λq=>if q=n then .blank else G.cont q,eu:=ib G.eu n}
def GM.drop (G:GM)(n:Nat):GM:={G with fr:=n::G.fr,eu:=ib G.eu n}
def GM.reset (G:GM):GM:={G with eu:=[]}
def GM.eS (G:GM)(n:Nat):GM:={G with root:=n}
def Be (G:GM)(n:Nat)(x:PC)(q:Nat):(G.put n x).cont q=if q=n then x else G.cont q:=rfl
def Ql (G:GM):G.alloc.eu=ib G.eu G.dI:=by unfold GM.alloc GM.dI;split<;>rfl
def vd (G:GM)(n:Nat)(x:PC):(G.put n x).eu.length<=G.eu.length+1:=AY _ _
def yF (G:GM)(n:Nat):(G.drop n).eu.length<=G.eu.length+1:=AY _ _
def Ox (G:GM)(x:PC):(G.alloc.put G.dI x).eu.length<=G.eu.length+1:=by
 show(ib G.alloc.eu G.dI).length<=_;rw[Ql,Ky];exact AY _ _
def nZ (G:GM)(n:Nat)(x:PC):(G.put n x).cont n=x:=by simp[Be]
def KV (G:GM)(n:Nat)(x:PC)(q:Nat)(h:q≠n):(G.put n x).cont q=G.cont q:=by simp[Be,h]
@[simp] def oe (G:GM)(n:Nat)(x:PC):(G.put n x).bT=G.bT:=rfl
def wb.put {G:GM}(h:wb G)(n:Nat)(x:PC):wb (G.put n x):=⟨h.one,h.jT,h.size,h.nd,h.fr⟩
def wb.eS {G:GM}(h:wb G)(n:Nat):wb (G.eS n):=⟨h.one,h.jT,h.size,h.nd,h.fr⟩
structure OE (G:GM):Prop where
 ok:wb G.alloc
 not:¬G.bV G.dI
 bV:∀q,G.alloc.bV q↔G.bV q\/q=G.dI
 cont:∀q,q≠G.dI->G.alloc.cont q=G.cont q
 root:G.alloc.root=G.root
 free:G.alloc.bT+1=G.bT
 aO:G.alloc.aO=G.aO
 pos:0<G.dI
def vL {G:GM}(h:wb G)(j:0<G.bT):OE G:=by
 cases d:G.fr with
 |nil=>
  have e:G.alloc={G with used:=G.used+1,cont:=λq=>if q=G.used then .blank else G.cont q,eu:=ib G.eu G.used}:=by unfold GM.alloc;rw[d]
  have f:G.dI=G.used:=by unfold GM.dI;rw[d]
  have h1:=h.one;unfold GM.bT at j;rw[d]at j;simp at j;refine⟨?_,?_,?_,?_,?_,?_,?_,?_⟩
  .rw[e];exact⟨V,by show G.used+1<=G.aO;omega,h.size,h.nd,λn hn=>by have:=h.fr n hn;show _/\n<G.used+1;omega⟩
  .rw[f];intro⟨_,l,_⟩;omega
  .intro q;rw[e,f];unfold GM.bV;simp only[d];simp;omega
  .intro q g;rw[e];rw[f]at g;simp[g]
  .rw[e]
  .rw[e];unfold GM.bT;simp[d];omega
  .rw[e]
  .rw[f];omega
 |cons n r=>
  have e:G.alloc={G with fr:=r,cont:=λq=>if q=n then .blank else G.cont q,eu:=ib G.eu n}:=by unfold GM.alloc;rw[d]
  have f:G.dI=n:=by unfold GM.dI;rw[d]
  have i:=h.nd;rw[d,me]at i;have hn:=h.fr n (by rw[d];simp);refine⟨?_,?_,?_,?_,?_,?_,?_,?_⟩
  .rw[e];exact⟨h.one,h.jT,h.size,i.2,λm o=>h.fr m (by rw[d];simp[show m∈r from o])⟩
  .rw[f];intro⟨_,_,l⟩;rw[d]at l;simp at l
  .intro q;rw[e,f];unfold GM.bV;simp only[d,ip,rt];constructor
   .rintro⟨a,b,c⟩
    by_cases g:q=n
    .exact .inr g
    .exact .inl ⟨a,b,g,c⟩
   .rintro(⟨a,b,_,c⟩|rfl)
    .exact⟨a,b,c⟩
    .exact⟨hn.1,hn.2,i.1⟩
  .intro q g;rw[e];rw[f]at g;simp[g]
  .rw[e]
  .rw[e];unfold GM.bT;simp[d];omega
  .rw[e]
  .rw[f];exact hn.1
structure Yn (G:GM)(n:Nat):Prop where
 ok:wb (G.drop n)
 bV:∀q,(G.drop n).bV q↔G.bV q/\q≠n
 free:(G.drop n).bT=G.bT+1
def qV {G:GM}(h:wb G){n:Nat}(f:G.bV n):Yn G n:=by
 refine⟨⟨h.one,h.jT,h.size,?_,?_⟩,?_,?_⟩
 .exact me.2 ⟨f.2.2,h.nd⟩
 .intro q e;rcases ip.1 e with rfl|e
  .exact⟨f.1,f.2.1⟩
  .exact h.fr q e
 .intro q;show(0<q/\q<G.used/\q∉n::G.fr)↔_;unfold GM.bV;simp only[ip,rt];constructor
  .rintro⟨a,b,c,d⟩;exact⟨⟨a,b,d⟩,c⟩
  .rintro⟨⟨a,b,d⟩,c⟩;exact⟨a,b,c,d⟩
 .show G.aO-G.used+(n::G.fr).length=_;unfold GM.bT;simp;omega
abbrev aT:=bS×List UInt8
def qY (G:GM):List Nat->Nat->List UInt8->Prop
 |[],page,v=>page=0/\v=[]
 |p::ps,page,v=>page=p/\v≠[]/\G.bV p/\∃next,G.cont p=.dX next (v.take 480)/\next<=kj/\qY G ps next (v.drop 480)
def Cw (G:GM)(c:dq)(v:List UInt8)(ps:List Nat):Prop:=
 (c.dX=0/\v=c.value/\ps=[])\/(c.dX≠0/\c.size=v.length/\64<v.length/\v.length<=8192/\qY G ps c.dX v)
def fE (G:GM):List dq->List aT->List Nat->Prop
 |[],L,ps=>L=[]/\ps=[]
 |c::cs,L,ps=>∃v b d a,Cw G c v b/\fE G cs d a/\L=(c.key,v)::d/\ps=b++a
abbrev tM:=Nat->bS->Option bS->List aT->List Nat->Prop
def ck (S:tM):List Nat->List bS->bS->Option bS->List aT->List Nat->Prop
 |[k],[],lo,hi,L,ps=>S k lo hi L ps
 |k::ks,s::ss,lo,hi,L,ps=>∃d b c a,S k lo (some s) d b/\ck S ks ss s hi c a/\L=d++c/\ps=b++a
 |_,_,_,_,_,_=>False
def F8 (k:bS)(hi:Option bS):Prop:=match hi with|none=>True|some h=>eI k h
def bp.fF (n:bp):List bS:=n.cells.map (·.key)
def ID (G:GM)(n:bp)(lo:bS)(hi:Option bS)(L:List aT)(ps:List Nat):Prop:=n.leaf=true/\F8 lo hi/\fE G n.cells L ps/\∀c∈n.cells,lO lo c.key/\F8 c.key hi
def SF (S:tM)(n:bp)(lo:bS)(hi:Option bS)(L:List aT)(ps:List Nat):Prop:=n.leaf=false/\ck S n.kids n.fF lo hi L ps
structure pk (G:GM)(page:Nat)(n:bp):Prop where
 bV:G.bV page
 cont:G.cont page=.node n
 ok:n.ok
 size:n.size<=512
 full:n.cells≠[]
def AtP (G:GM)(C:bp->bS->Option bS->List aT->List Nat->Prop):tM:=λpage lo hi L ps=>∃n q,pk G page n/\C n lo hi L q/\ps=page::q
def xE (G:GM):Nat->bp->bS->Option bS->List aT->List Nat->Prop
 |0=>ID G
 |h+1=>SF (AtP G (xE G h))
def Sub (G:GM)(h:Nat):tM:=AtP G (xE G h)
def rS {a b:bS}{hi:Option bS}(h:eI a b)(k:F8 b hi):F8 a hi:=by cases hi with|none=>trivial|some c=>exact gu h k
section
variable {S S':tM}
def ck.mono {lo:bS}{hi:Option bS}{L:List aT}(h:ck S ks ss lo hi L ps)(i:∀k lo hi L q,(∀x∈q,x∈ps)->S k lo hi L q->S' k lo hi L q):ck S' ks ss lo hi L ps:=by
 induction ks generalizing ss lo L ps with
 |nil=>cases ss<;>exact h.elim
 |cons k ks j=>
  cases ss with
  |nil=>cases ks with
   |nil=>exact i _ _ _ _ _ (λx hx=>hx) h
   |cons k2 ks=>exact h.elim
  |cons s ss=>
   obtain⟨g,c,e,p2,m,l,rfl,rfl⟩:∃g c e p2,S k lo (some s) g c/\ck S ks ss s hi e p2/\L=g++e/\ps=c++p2:=by cases ks<;>exact h
   have:∃f b d a,S' k lo (some s) f b/\ck S' ks ss s hi d a/\g++e=f++d/\c++p2=b++a:=
    ⟨g,c,e,p2,i _ _ _ _ _ (λx hx=>Hs) m,j l λk lo hi L q hq=>i k lo hi L q λx hx=>S3,rfl,rfl⟩
   cases ks<;>exact this
def ck.cons {lo:bS}{hi:Option bS}{L:List aT}:ck S (k::ks) (s::ss) lo hi L ps↔∃c a b p2,S k lo (some s) c a/\ck S ks ss s hi b p2/\L=c++b/\ps=a++p2:=by cases ks<;>exact Iff.rfl
def ck.one {lo:bS}{hi:Option bS}{L:List aT}:ck S (k::ks) [] lo hi L ps↔ks=[]/\S k lo hi L ps:=by
 cases ks with
 |nil=>simp[ck]
 |cons k2 ks=>simp[ck]
def ck.len {lo:bS}{hi:Option bS}{L:List aT}(h:ck S ks ss lo hi L ps):ks.length=ss.length+1:=by
 induction ks generalizing ss lo L ps with
 |nil=>cases ss<;>exact h.elim
 |cons k ks a=>
  cases ss with
  |nil=>rw[ck.one]at h;rw[h.1];rfl
  |cons s ss=>rw[ck.cons]at h;obtain⟨_,_,_,_,_,b,_,_⟩:=h;simp[a b]
def CD (S:tM):List Nat->List bS->bS->bS->List aT->List Nat->Prop
 |[],[],lo,lN,L,ps=>lo=lN/\L=[]/\ps=[]
 |k::ks,s::ss,lo,lN,L,ps=>∃d b c a,S k lo (some s) d b/\CD S ks ss s lN c a/\L=d++c/\ps=b++a
 |_,_,_,_,_,_=>False
def QG (S:tM):List Nat->List bS->Option bS->Option bS->List aT->List Nat->Prop
 |[],[],lN,hi,L,ps=>lN=hi/\L=[]/\ps=[]
 |k::ks,s::ss,lN,hi,L,ps=>lN=some s/\ck S (k::ks) ss s hi L ps
 |_,_,_,_,_,_=>False
def ck.split {lo:bS}{hi:Option bS}{L:List aT}(he:k1.length=s1.length):ck S (k1++k2) (s1++s2) lo hi L ps↔∃lN b a g p2,CD S k1 s1 lo lN b a/\ck S k2 s2 lN hi g p2/\L=b++g/\ps=a++p2:=by
 induction k1 generalizing s1 lo L ps with
 |nil=>
  cases s1 with
  |nil=>
   constructor
   .intro h;exact⟨lo,[],[],L,ps,⟨rfl,rfl,rfl⟩,h,rfl,rfl⟩
   .rintro⟨lN,b,a,g,p2,⟨rfl,rfl,rfl⟩,h,rfl,rfl⟩;exact h
  |cons s s1=>cases he
 |cons k k1 l=>
  cases s1 with
  |nil=>cases he
  |cons s s1=>
   have m:k1.length=s1.length:=õ
   rw[ut,ut,ck.cons];constructor
   .rintro⟨b,a,g,p2,h1,h2,rfl,rfl⟩;obtain⟨lN,d,c,f,e,j,i,rfl,rfl⟩:=(l m).1 h2;exact⟨lN,b++d,a++c,f,e,⟨b,a,d,c,h1,j,rfl,rfl⟩,i,V,V⟩
   .rintro⟨lN,_,_,f,e,⟨b,a,d,c,h1,j,rfl,rfl⟩,i,rfl,rfl⟩;exact⟨b,a,d++f,c++e,h1,(l m).2 ⟨lN,d,c,f,e,j,i,rfl,rfl⟩,V,V⟩
def ck.focus {lo:bS}{hi:Option bS}{L:List aT}:ck S (k::k2) s2 lo hi L ps↔∃lN c a b p2,S k lo lN c a/\QG S k2 s2 lN hi b p2/\L=c++b/\ps=a++p2:=by
 cases s2 with
 |nil=>
  rw[ck.one];constructor
  .rintro⟨rfl,h⟩;exact⟨hi,L,ps,[],[],h,⟨rfl,rfl,rfl⟩,V,V⟩
  .rintro⟨lN,c,a,b,p2,h1,h2,rfl,rfl⟩;cases k2 with
   |nil=>obtain⟨rfl,rfl,rfl⟩:=h2;exact⟨rfl,QM⟩
   |cons d k2=>exact h2.elim
 |cons s s2=>
  rw[ck.cons];constructor
  .rintro⟨c,a,b,p2,h1,h2,rfl,rfl⟩;cases k2 with
   |nil=>exact absurd h2.len V
   |cons d k2=>exact⟨some s,c,a,b,p2,h1,⟨rfl,h2⟩,rfl,rfl⟩
  .rintro⟨lN,c,a,b,p2,h1,h2,rfl,rfl⟩;cases k2 with
   |nil=>exact h2.elim
   |cons d k2=>obtain⟨rfl,e⟩:=h2;exact⟨c,a,b,p2,h1,e,rfl,rfl⟩
def CD.snoc {lo:bS}{L:List aT}:CD S ks (ss++[s]) lo lN L ps↔lN=s/\ck S ks ss lo (some s) L ps:=by
 induction ks generalizing ss lo L ps with
 |nil=>
  constructor
  .intro h;cases ss<;>exact h.elim
  .rintro⟨_,h⟩;cases ss<;>exact h.elim
 |cons k ks a=>
  cases ss with
  |nil=>
   rw[ck.one];constructor
   .rintro⟨L1,p1,L2,p2,h1,h2,rfl,rfl⟩;cases ks with
    |nil=>obtain⟨rfl,rfl,rfl⟩:=h2;exact⟨rfl,rfl,QM⟩
    |cons k2 ks=>exact h2.elim
   .rintro⟨rfl,rfl,h⟩;exact⟨L,ps,[],[],h,⟨rfl,rfl,rfl⟩,V,V⟩
  |cons s2 ss=>
   rw[ut,ck.cons];constructor
   .rintro⟨L1,p1,L2,p2,h1,h2,rfl,rfl⟩;obtain⟨rfl,b⟩:=a.1 h2;exact⟨rfl,L1,p1,L2,p2,h1,b,rfl,rfl⟩
   .rintro⟨rfl,L1,p1,L2,p2,h1,h2,rfl,rfl⟩;exact⟨L1,p1,L2,p2,h1,a.2 ⟨rfl,h2⟩,rfl,rfl⟩
def CD.mono {lo:bS}{L:List aT}(h:CD S ks ss lo lN L ps)(a:∀k lo hi L q,(∀x∈q,x∈ps)->S k lo hi L q->S' k lo hi L q):CD S' ks ss lo lN L ps:=by
 induction ks generalizing ss lo L ps with
 |nil=>cases ss<;>exact h
 |cons k ks d=>
  cases ss with
  |nil=>exact h
  |cons s ss=>
   obtain⟨i,c,g,b,f,e,rfl,rfl⟩:=h;exact⟨i,c,g,b,a _ _ _ _ _ (λx hx=>Hs) f,d e λk lo hi L q hq=>a k lo hi L q λx hx=>S3,rfl,rfl⟩
def QG.mono {lN hi:Option bS}{L:List aT}(h:QG S ks ss lN hi L ps)(a:∀k lo hi L q,(∀x∈q,x∈ps)->S k lo hi L q->S' k lo hi L q):QG S' ks ss lN hi L ps:=by
 cases ks with
 |nil=>cases ss<;>exact h
 |cons k ks=>
  cases ss with
  |nil=>exact h
  |cons s ss=>exact⟨h.1,h.2.mono a⟩
def CD.len {lo:bS}{L:List aT}(h:CD S ks ss lo lN L ps):ks.length=ss.length:=by
 induction ks generalizing ss lo L ps with
 |nil=>cases ss with|nil=>rfl|cons s ss=>exact h.elim
 |cons k ks a=>
  cases ss with
  |nil=>exact h.elim
  |cons s ss=>obtain⟨g,d,f,c,e,b,rfl,rfl⟩:=h;simp[a b]
def CD.append {lo:bS}{L:List aT}(he:k1.length=s1.length):CD S (k1++k2) (s1++s2) lo lN L ps↔∃m b a g p2,CD S k1 s1 lo m b a/\CD S k2 s2 m lN g p2/\L=b++g/\ps=a++p2:=by
 induction k1 generalizing s1 lo L ps with
 |nil=>
  cases s1 with
  |nil=>
   constructor
   .intro h;exact⟨lo,[],[],L,ps,⟨rfl,rfl,rfl⟩,h,rfl,rfl⟩
   .rintro⟨m,b,a,g,p2,⟨rfl,rfl,rfl⟩,h,rfl,rfl⟩;exact h
  |cons s s1=>cases he
 |cons k k1 l=>
  cases s1 with
  |nil=>cases he
  |cons s s1=>
   have n:k1.length=s1.length:=õ
   constructor
   .rintro⟨b,a,g,p2,h1,h2,rfl,rfl⟩;obtain⟨m,d,c,f,e,j,i,rfl,rfl⟩:=(l n).1 h2;exact⟨m,b++d,a++c,f,e,⟨b,a,d,c,h1,j,rfl,rfl⟩,i,V,V⟩
   .rintro⟨m,_,_,f,e,⟨b,a,d,c,h1,j,rfl,rfl⟩,i,rfl,rfl⟩;exact⟨b,a,d++f,c++e,h1,(l n).2 ⟨m,d,c,f,e,j,i,rfl,rfl⟩,V,V⟩
end
def Kept (G G':GM)(ps:List Nat):Prop:=∀q∈ps,(G.bV q->G'.bV q)/\G'.cont q=G.cont q
def Kept.sub {G G':GM}{qs:List Nat}(h:Kept G G' ps)(a:∀x∈qs,x∈ps):Kept G G' qs:=λq b=>h q (a q b)
def qY.kept {G G':GM}{page:Nat}{v:List UInt8}(h:qY G ps page v)(k:Kept G G' ps):qY G' ps page v:=by
 induction ps generalizing page v with
 |nil=>exact h
 |cons p ps a=>
  obtain⟨rfl,f,e,next,d,c,b⟩:=h;obtain⟨k1,k2⟩:=k page V;exact⟨rfl,f,k1 e,next,by rw[k2];exact d,c,a b (k.sub (by simp_all))⟩
def fE.kept {G G':GM}{f:List dq}{L:List aT}(h:fE G f L ps)(k:Kept G G' ps):fE G' f L ps:=by
 induction f generalizing L ps with
 |nil=>exact h
 |cons c f l=>
  obtain⟨v,j,n,i,g,m,rfl,rfl⟩:=h;refine⟨v,j,n,i,?_,l m (k.sub (by simp_all)),rfl,rfl⟩;rcases g with g|⟨a,b,c,d,e⟩
  .exact .inl g
  .exact .inr ⟨a,b,c,d,e.kept (k.sub (by simp_all))⟩
def pk.kept {G G':GM}{page:Nat}{n:bp}(h:pk G page n)(k:Kept G G' [page]):pk G' page n:=by
 obtain⟨k1,k2⟩:=k page V;exact⟨k1 h.bV,by rw[k2];exact h.cont,h.ok,h.size,h.full⟩
def xE.kept {G G':GM}:∀{h:Nat} {n:bp} {lo:bS} {hi:Option bS} {L:List aT} {ps:List Nat},xE G h n lo hi L ps->Kept G G' ps->xE G' h n lo hi L ps:=by
 intro h
 induction h with
 |zero=>rintro n lo hi L ps ⟨d,c,l,j⟩ k;exact⟨d,c,l.kept k,j⟩
 |succ h g=>
  rintro n lo hi L ps ⟨d,c⟩ k;refine⟨d,c.mono λo lo hi L q e i=>?_⟩;obtain⟨m,f,a,b,rfl⟩:=i;exact⟨m,f,a.kept (k.sub λx hx=>e x afM),g b (k.sub λx hx=>e x Hs),rfl⟩
def Sub.kept {G G':GM}{h page:Nat}{lo:bS}{hi:Option bS}{L:List aT}(d:Sub G h page lo hi L ps)(k:Kept G G' ps):Sub G' h page lo hi L ps:=by
 obtain⟨m,c,a,b,rfl⟩:=d;exact⟨m,c,a.kept (k.sub λx hx=>afM),b.kept (k.sub λx hx=>Hs),rfl⟩
end
section
variable {S:tM}{ks:List Nat}{ss:List bS}{L:List aT}{ps:List Nat}{G:GM}{cs:List dq}{h:Nat}
def fq (L:List aT):Prop:=L.Pairwise λa b=>eI a.1 b.1
structure DD (lo:bS)(hi:Option bS)(L:List aT):Prop where
 lt:F8 lo hi
 in_:∀x∈L,lO lo x.1/\F8 x.1 hi
 sorted:fq L
def ud {b a:List aT}(d:fq b)(c:fq a)(h:∀x∈b,∀y∈a,eI x.1 y.1):fq (b++a):=Zu.2 ⟨d,c,h⟩
def ck.facts (j:∀k lo hi L q,S k lo hi L q->DD lo hi L){lo:bS}{hi:Option bS}(h:ck S ks ss lo hi L ps):
 DD lo hi L/\(∀s∈ss,eI lo s/\F8 s hi)/\ss.Pairwise eI:=by
 induction ks generalizing ss lo L ps with
 |nil=>cases ss<;>exact h.elim
 |cons k ks m=>
  cases ss with
  |nil=>rw[ck.one]at h;exact⟨j _ _ _ _ _ h.2,V,V⟩
  |cons s ss=>
   rw[ck.cons]at h;obtain⟨z,v,w,u,p,o,rfl,rfl⟩:=h;have i:=j _ _ _ _ _ p;obtain⟨g,l,r⟩:=m o;have c:=i.lt;have e:=g.lt;refine⟨⟨rS c e,λx d=>?_,ud i.sorted g.sorted λx d y n=>?_⟩,λt f=>?_,?_⟩
   .rcases lh.1 d with d|d
    .obtain⟨a,b⟩:=i.in_ x d;exact⟨a,rS b e⟩
    .obtain⟨a,b⟩:=g.in_ x d;exact⟨(c.kI a).le,b⟩
   .have a:=(i.in_ x d).2;exact a.kI (g.in_ y n).1
   .rcases ip.1 f with rfl|f
    .exact⟨c,e⟩
    .obtain⟨a,b⟩:=l t f;exact⟨gu c a,b⟩
   .exact ü.2 ⟨λt f=>(l t f).1,r⟩
def CD.facts (i:∀k lo hi L q,S k lo hi L q->DD lo hi L){lo c:bS}(h:CD S ks ss lo c L ps):
 lO lo c/\(∀x∈L,eI x.1 c):=by
 induction ks generalizing ss lo L ps with
 |nil=>cases ss with
  |nil=>obtain⟨rfl,rfl,rfl⟩:=h;exact⟨Bx _,V⟩
  |cons s ss=>exact h.elim
 |cons k ks g=>
  cases ss with
  |nil=>exact h.elim
  |cons s ss=>
   obtain⟨r,o,p,n,l,j,rfl,rfl⟩:=h;have f:=i _ _ _ _ _ l;have d:=f.lt;obtain⟨e,m⟩:=g j;refine⟨(d.kI e).le,λx b=>?_⟩;rcases lh.1 b with b|b
   .have a:=(f.in_ x b).2;exact a.kI e
   .exact m x b
def leh (a:Option bS)(k:bS):Prop:=match a with|none=>False|some m=>lO m k
def QG.facts (d:∀k lo hi L q,S k lo hi L q->DD lo hi L){a hi:Option bS}(h:QG S ks ss a hi L ps):
 (∀x∈L,leh a x.1)/\∀k,F8 k a->F8 k hi:=by
 cases ks with
 |nil=>cases ss with
  |nil=>obtain⟨rfl,rfl,rfl⟩:=h;exact⟨V,λk h=>h⟩
  |cons s ss=>exact h.elim
 |cons k ks=>
  cases ss with
  |nil=>exact h.elim
  |cons s ss=>
   obtain⟨rfl,h⟩:=h;obtain⟨f,_⟩:=h.facts d;exact⟨λx b=>(f.in_ x b).1,λk c=>rS c f.lt⟩
def fE.keys (h:fE G cs L ps):L.map (·.1)=cs.map (·.key):=by
 induction cs generalizing L ps with
 |nil=>obtain⟨rfl,rfl⟩:=h;rfl
 |cons c cs a=>obtain⟨v,e,g,d,f,b,rfl,rfl⟩:=h;simp[a b]
def fE.len (h:fE G cs L ps):L.length=cs.length:=by simpa using congrArg List.length h.keys
def ID.facts {n:bp}{lo:bS}{hi:Option bS}(h:ID G n lo hi L ps)(d:jJ n.cells):DD lo hi L:=by
 obtain⟨k,j,i,g⟩:=h;have a:=i.keys;refine⟨j,λx b=>?_,?_⟩
 .have:x.1∈n.cells.map (·.key):=by rw[<-a];exact Ey b
  obtain⟨c,f,e⟩:=lm.1 this;rw[<-e];exact g c f
 .have:(L.map (·.1)).Pairwise eI:=by rw[a,ú];exact d
  rw[ú]at this;exact this
def xE.facts :∀{h:Nat} {n:bp} {lo:bS} {hi:Option bS} {L:List aT} {ps:List Nat},xE G h n lo hi L ps->jJ n.cells->DD lo hi L:=by
 intro h
 induction h with
 |zero=>intro n lo hi L ps g c;exact ID.facts g c
 |succ h d=>
  rintro n lo hi L ps ⟨_,f⟩ c;exact(f.facts λk lo hi L q e=>by obtain⟨m,i,a,b,rfl⟩:=e;exact d b a.ok.sorted).1
def Sub.facts {page:Nat}{lo:bS}{hi:Option bS}(c:Sub G h page lo hi L ps):DD lo hi L:=by
 obtain⟨m,d,a,b,rfl⟩:=c;exact b.facts a.ok.sorted
def Sub.uH :∀k lo hi L q,Sub G h k lo hi L q->DD lo hi L:=λ_ _ _ _ _ a=>a.facts
def ck.aO {lo:bS}{hi:Option bS}(h:ck S ks ss lo hi L ps)(P:Nat->Prop)(b:∀k lo hi L q,S k lo hi L q->∀x∈q,P x):∀x∈ps,P x:=by
 induction ks generalizing ss lo L ps with
 |nil=>cases ss<;>exact h.elim
 |cons k ks c=>
  cases ss with
  |nil=>rw[ck.one]at h;exact b _ _ _ _ _ h.2
  |cons s ss=>
   rw[ck.cons]at h;obtain⟨j,g,i,f,e,d,rfl,rfl⟩:=h;intro x a;rcases lh.1 a with a|a
   .exact b _ _ _ _ _ e x a
   .exact c d x a
def qY.aO {page:Nat}{v:List UInt8}(h:qY G ps page v):∀x∈ps,G.bV x:=by
 induction ps generalizing page v with
 |nil=>simp
 |cons p ps b=>
  obtain⟨rfl,g,d,next,f,e,c⟩:=h;intro x a;rcases ip.1 a with rfl|a
  .exact d
  .exact b c x a
def fE.aO (h:fE G cs L ps):∀x∈ps,G.bV x:=by
 induction cs generalizing L ps with
 |nil=>obtain⟨rfl,rfl⟩:=h;simp
 |cons c cs b=>
  obtain⟨v,i,j,g,f,d,rfl,rfl⟩:=h;intro x a;rcases lh.1 a with a|a
  .rcases f with⟨_,_,rfl⟩|⟨_,_,_,_,e⟩
   .cases a
   .exact e.aO x a
  .exact b d x a
def xE.aO :∀{h:Nat} {n:bp} {lo:bS} {hi:Option bS} {L:List aT} {ps:List Nat},xE G h n lo hi L ps->∀x∈ps,G.bV x:=by
 intro h
 induction h with
 |zero=>rintro n lo hi L ps ⟨_,_,f,_⟩;exact f.aO
 |succ h d=>
  rintro n lo hi L ps ⟨_,g⟩;refine g.aO _ λk lo hi L q e=>?_;obtain⟨m,i,a,b,rfl⟩:=e;intro x c;rcases ip.1 c with rfl|c
  .exact a.bV
  .exact d b x c
def Sub.aO {page:Nat}{lo:bS}{hi:Option bS}(d:Sub G h page lo hi L ps):∀x∈ps,G.bV x:=by
 obtain⟨m,e,a,b,rfl⟩:=d;intro x c;rcases ip.1 c with rfl|c
 .exact a.bV
 .exact b.aO x c
def ck.count {w:Nat}(a:∀k lo hi L q,S k lo hi L q->w<=q.length){lo:bS}{hi:Option bS}(h:ck S ks ss lo hi L ps):ks.length*w<=ps.length:=by
 induction ks generalizing ss lo L ps with
 |nil=>cases ss<;>exact h.elim
 |cons k ks b=>
  cases ss with
  |nil=>rw[ck.one]at h;obtain⟨rfl,h⟩:=h;simpa using a _ _ _ _ _ h
  |cons s ss=>
   rw[ck.cons]at h;obtain⟨i,f,g,e,d,c,rfl,rfl⟩:=h;have:=a _ _ _ _ _ d;have:=b c;rw[lx,km,tx];omega
def Sub.count :∀{h page:Nat} {lo:bS} {hi:Option bS} {L:List aT} {ps:List Nat},Sub G h page lo hi L ps->2^h<=ps.length:=by
 intro h
 induction h with
 |zero=>rintro page lo hi L ps ⟨m,d,a,b,rfl⟩;simp
 |succ h e=>
  rintro page lo hi L ps ⟨m,d,a,⟨j,c⟩,rfl⟩;have h1:=c.count (w:=2^h) λk lo hi L q f=>e f;have h2:=c.len
  have i:0<m.fF.length:=by
   unfold bp.fF;rw[so];exact TK.2 a.full
  have g:2*2^h<=m.kids.length*2^h:=zv _ J;rw[WP,lx];omega
def Sub.aet :∀{h page:Nat} {lo:bS} {hi:Option bS} {L:List aT} {ps:List Nat},Sub G h page lo hi L ps->2^(h+1)-1<=ps.length:=by
 intro h
 induction h with
 |zero=>rintro page lo hi L ps ⟨m,d,a,b,rfl⟩;simp
 |succ h e=>
  rintro page lo hi L ps ⟨m,d,a,⟨j,c⟩,rfl⟩;have h1:=c.count (w:=2^(h+1)-1) λk lo hi L q f=>e f;have h2:=c.len
  have i:0<m.fF.length:=by
   unfold bp.fF;rw[so];exact TK.2 a.full
  have g:2*(2^(h+1)-1)<=m.kids.length*(2^(h+1)-1):=zv _ J;rw[WP 2 (h+1),lx];omega
def qb:∀(n:Nat) (l:List Nat),l.Nodup->(∀x∈l,x<n)->l.length<=n:=by
 intro n
 induction n with
 |zero=>intro l _ h;cases l with|nil=>simp|cons a l=>exact absurd (h a V) J
 |succ n f=>
  intro l d h
  by_cases g:n∈l
  .have h1:=f (l.erase n) (d.erase n) λx c=>by
    obtain⟨a,b⟩:=d.mem_erase_iff.1 c;have:=h x b;omega
   rw[List.length_erase_of_mem g]at h1;omega
  .have:=f l d λx c=>by
    have:=h x c;have:x≠n:=λe=>g (e▸c);omega
   omega
def Ik (c:ps.Nodup)(b:∀x∈ps,G.bV x)(d:1<=G.used):ps.length+1<=G.used:=by
 have:=qb G.used (0::ps) (me.2 ⟨λh=>by have:=(b 0 h).1;omega,c⟩) λx a=>by
  rcases ip.1 a with rfl|a
  .omega
  .exact(b x a).2.1
 simpa using this
def Sub.deep {page:Nat}{lo:bS}{hi:Option bS}(c:Sub G h page lo hi L ps)(d:ps.Nodup)(a:wb G):h<=16:=by
 have h1:=c.count;have h2:=Ik d c.aO a.one;have f:=a.jT;have e:=a.size;rcases wl 16 h with b|b
 .have:2^17<=2^h:=Nat.pow_le_pow_right J b;omega
 .exact b
def Sub.alL {page:Nat}{lo:bS}{hi:Option bS}(a:Sub G h page lo hi L ps)(d:ps.Nodup)(b:wb G)(e:G.aO<=4095):h<=10:=by
 have h1:=a.aet;have h2:=Ik d a.aO b.one;have f:=b.jT;rcases wl 10 h with c|c
 .have:2^12<=2^(h+1):=Nat.pow_le_pow_right J J;omega
 .exact c
structure dh where
 page:Nat
 at_:Nat
 n:bp
def Ctx (G:GM):Nat->List dh->Nat->bS->Option bS->List aT->List aT->List Nat->Prop
 |_,[],page,lo,hi,Ll,Lr,ps=>page=G.root/\lo=[]/\hi=none/\Ll=[]/\Lr=[]/\ps=[]
 |h,s::l,page,lo,hi,Ll,Lr,ps=>∃d e i j a g c f b,Ctx G (h+1) l s.page d e i j a/\pk G s.page s.n/\s.n.leaf=false/\s.n.kids[s.at_]?=some page/\
  CD (Sub G h) (s.n.kids.take s.at_) (s.n.fF.take s.at_) d lo g c/\QG (Sub G h) (s.n.kids.drop (s.at_+1)) (s.n.fF.drop s.at_) hi e f b/\Ll=i++g/\Lr=f++j/\ps=s.page::(c++(b++a))
def By (a:List Nat)(i:Nat)(page:Nat)(h:a[i]?=some page):a=a.take i++page::a.drop (i+1):=by
 obtain⟨hi,rfl⟩:=qo.1 h
 conv=>lhs;rw[<-CV i a,vT hi]
def Ctx.fill :∀{l:List dh} {h page:Nat} {lo:bS} {hi:Option bS} {c b:List aT} {ps:List Nat},Ctx G h l page lo hi c b ps->∀{L:List aT} {q:List Nat},Sub G h page lo hi L q->
 ∃rz,rz.Perm (q++ps)/\Sub G (h+l.length) G.root [] none (c++(L++b)) rz:=by
 intro l
 induction l with
 |nil=>
  rintro h page lo hi c b ps ⟨rfl,rfl,rfl,rfl,rfl,rfl⟩ L q hs;exact⟨q,V,acp⟩
 |cons s l m=>
  rintro h page lo hi c b ps ⟨k,y,D,F,rz,i,g,d,a,w,v,u,r,j,p,rfl,rfl,rfl⟩ L q hs
  have o:ck (Sub G h) s.n.kids s.n.fF k y (i++(L++d)) (g++(q++a)):=by
   rw[By _ _ _ r]
   conv=>arg 3;rw[<-CV s.at_ s.n.fF]
   exact(ck.split j.len).2 ⟨lo,i,g,L++d,q++a,j,ck.focus.2 ⟨hi,L,q,d,a,hs,p,rfl,rfl⟩,rfl,rfl⟩
  obtain⟨f,C,z⟩:=m w (L:=i++(L++d)) (q:=s.page::(g++(q++a))) ⟨s.n,_,v,⟨u,o⟩,rfl⟩;refine⟨f,C.trans ?_,?_⟩
  .refine(ê.2 λx=>?_);simp only[ä,â];omega
  .have e:h+(s::l).length=h+1+l.length:=by simp;omega
   rw[e]
   simpa using z
def Ctx.kept {G':GM}(n:G'.root=G.root):∀{l:List dh} {h page:Nat} {lo:bS} {hi:Option bS} {b a:List aT} {ps:List Nat},Ctx G h l page lo hi b a ps->Kept G G' ps->Ctx G' h l page lo hi b a ps:=by
 intro l
 induction l with
 |nil=>rintro h page lo hi b a ps ⟨e,d⟩ _;exact⟨by rw[n];exact e,d⟩
 |cons s l m=>
  rintro h page lo hi b a ps ⟨j,v,z,C,f,y,i,w,g,e,d,u,r,p,o,rfl,rfl,rfl⟩ k
  exact⟨j,v,z,C,f,y,i,w,g,m e (k.sub (by simp_all)),d.kept (k.sub (by simp_all)),u,r,p.mono λ_ _ _ _ q hq c=>c.kept (k.sub λx hx=>S3),
   o.mono λ_ _ _ _ q hq c=>c.kept (k.sub λx hx=>S3),rfl,rfl,rfl⟩
def Ctx.aO :∀{l:List dh} {h page:Nat} {lo:bS} {hi:Option bS} {g f:List aT} {ps:List Nat},Ctx G h l page lo hi g f ps->∀x∈ps,G.bV x:=by
 intro l
 induction l with
 |nil=>rintro h page lo hi g f ps ⟨_,_,_,_,_,rfl⟩;simp
 |cons s l i=>
  rintro h page lo hi g f ps ⟨D,I,T,W,v,N,y,M,w,u,r,H,F,q,o,rfl,rfl,rfl⟩ x c
  have n:∀{ks:List Nat} {ss:List bS} {lo d:bS} {L:List aT} {p:List Nat},CD (Sub G h) ks ss lo d L p->∀x∈p,G.bV x:=by
   intro ks
   induction ks with
   |nil=>intro ss lo d L p hh;cases ss with
    |nil=>obtain⟨_,_,rfl⟩:=hh;simp
    |cons s ss=>exact hh.elim
   |cons k ks e=>
    intro ss lo d L p hh;cases ss with
    |nil=>exact hh.elim
    |cons s ss=>
     obtain⟨Q,C,P,z,a,b,rfl,rfl⟩:=hh;intro x c;rcases lh.1 c with c|c
     .exact a.aO x c
     .exact e b x c
  have m:∀{ks:List Nat} {ss:List bS} {d hi:Option bS} {L:List aT} {p:List Nat},QG (Sub G h) ks ss d hi L p->∀x∈p,G.bV x:=by
   intro ks ss d hi L p hh;cases ks with
   |nil=>cases ss with
    |nil=>obtain⟨_,_,rfl⟩:=hh;simp
    |cons s ss=>exact hh.elim
   |cons k ks=>cases ss with
    |nil=>exact hh.elim
    |cons s ss=>exact hh.2.aO _ λ_ _ _ _ _ j=>j.aO
  simp only[ip,lh]at c;rcases c with rfl|c|c|c
  .exact r.bV
  .exact n q x c
  .exact m o x c
  .exact i u x c
def Ctx.ahg :∀{l:List dh} {h page:Nat} {lo:bS} {hi:Option bS} {e d:List aT} {ps:List Nat},Ctx G h l page lo hi e d ps->(∀x∈e,eI x.1 lo)/\(∀x∈d,leh hi x.1):=by
 intro l
 induction l with
 |nil=>rintro h page lo hi e d ps ⟨_,_,_,rfl,rfl,_⟩;simp
 |cons s l f=>
  rintro h page lo hi e d ps ⟨C,q,N,P,w,M,z,I,y,p,H,F,D,o,n,rfl,rfl,rfl⟩;obtain⟨j,i⟩:=f p;obtain⟨v,u⟩:=o.facts Sub.uH;obtain⟨r,g⟩:=n.facts Sub.uH;refine⟨λx b=>?_,λx b=>?_⟩
  .rcases lh.1 b with b|b
   .exact(j x b).kI v
   .exact u x b
  .rcases lh.1 b with b|b
   .exact r x b
   .have h:=i x b;cases q with
    |none=>exact h.elim
    |some c=>
     cases hi with
     |none=>exact absurd (g (c++[0]) trivial) (λh=>by
      have:¬eI (c++[0]) c:=by
       have:∀m:bS,¬eI (m++[0]) m:=λm=>by
        induction m with
        |nil=>exact kO _
        |cons a m f=>rw[ut,gN];rintro(h|⟨_,h⟩);exact SG a h;exact f h
       exact this c
      exact this h)
     |some m=>
      have k:lO m c:=by
       rcases Ei m c with h|h
       .exact h
       .have:=g c h;exact absurd this (hU _)
      exact k.trans h
end
section
variable {G:GM}{L:List aT}{ps:List Nat}{i h:Nat}{n a:bp}{s:bS}{q:List Nat}{S:tM}{k2:List Nat}{s2:List bS}{L1 L2:List aT}{q1 q2 l':List Nat}
def fE.append {g o:List dq}:fE G (g++o) L ps↔∃L1 b L2 p2,fE G g L1 b/\fE G o L2 p2/\L=L1++L2/\ps=b++p2:=by
 induction g generalizing L ps with
 |nil=>
  constructor
  .intro h;exact⟨[],[],L,ps,⟨rfl,rfl⟩,h,rfl,rfl⟩
  .rintro⟨L1,b,L2,p2,⟨rfl,rfl⟩,h,rfl,rfl⟩;exact h
 |cons c g m=>
  constructor
  .rintro⟨v,b,L2,p2,h1,h2,rfl,rfl⟩;obtain⟨e,d,j,f,l,k,rfl,rfl⟩:=m.1 h2;exact⟨(c.key,v)::e,b++d,j,f,⟨v,b,e,d,h1,l,rfl,rfl⟩,k,V,V⟩
  .rintro⟨_,_,j,f,⟨v,b,e,d,h1,l,rfl,rfl⟩,k,rfl,rfl⟩;exact⟨v,b,e++j,d++f,h1,m.2 ⟨e,d,j,f,l,k,rfl,rfl⟩,V,V⟩
def wL {l:List dq}(h:jJ l)(hi:i<l.length):(∀c∈l.take i,eI c.key l[i].key)/\(∀c∈l.drop i,lO l[i].key c.key)/\∀c∈l.drop (i+1),eI l[i].key c.key:=by
 have e:l=l.take i++l[i]::l.drop (i+1):=by
  conv=>lhs;rw[<-CV i l,vT hi]
 have g:(l.take i++l[i]::l.drop (i+1)).Pairwise λa b=>eI a.key b.key:=by rw[<-e];exact h
 rw[Zu]at g;obtain⟨_,f,j⟩:=g;rw[ü]at f;refine⟨λc d=>j c d _ zt,λc d=>?_,f.1⟩;rw[vT hi]at d;rcases ip.1 d with rfl|d
 .exact Bx _
 .exact(f.1 c d).le
def kJ (n:bp):n.fF.length=n.cells.length:=by unfold bp.fF;simp
def Rw (n:bp)(h:i<n.cells.length):n.fF[i]'(by rw[kJ];exact h)=n.cells[i].key:=by unfold bp.fF;simp
def xE.cut {b:bp}{lo:bS}{hi:Option bS}(f:xE G h n lo hi L q)(D:n.ok)(H:CE n a b i s):
 ∃L1 q1 L2 q2,xE G h a lo (some s) L1 q1/\xE G h b s hi L2 q2/\L=L1++L2/\q=q1++q2:=by
 have d:=H.lt;obtain⟨p,w,I⟩:=wL D.sorted d;rw[<-H.key]at p w I;cases h with
 |zero=>
  obtain⟨v,k,x,m⟩:=f;rcases H.eqs with⟨g,l,o⟩|⟨g,_⟩
  .rw[<-CV i n.cells]at x;obtain⟨L1,q1,L2,q2,u,r,rfl,rfl⟩:=fE.append.1 x;have hs:=m _ (mp d);rw[<-H.key]at hs;have C:(n.cells.take i)≠[]:=by have:=H.neA;rw[l]at this;exact this
   obtain⟨y,z⟩:=List.exists_mem_of_ne_nil _ C;have P:=(m y (ww z)).1.pT (p y z);refine⟨L1,q1,L2,q2,?_,?_,rfl,rfl⟩
   .rw[l];exact⟨rfl,P,u,λc f=>⟨(m c (ww f)).1,p c f⟩⟩
   .rw[o];exact⟨rfl,hs.2,r,λc f=>⟨w c f,(m c (zR f)).2⟩⟩
  .rw[v]at g;cases g
 |succ h=>
  obtain⟨v,k⟩:=f;rcases H.eqs with⟨g,_⟩|⟨g,l,o⟩
  .rw[v]at g;cases g
  .have F:=k.len;rw[kJ]at F
   have M:n.fF=(n.fF.take i++[s])++n.fF.drop (i+1):=by
    conv=>lhs;rw[<-CV (i+1) n.fF,su (by rw[kJ];exact d),Rw n d,<-H.key]
   rw[M]at k
   conv at k=>arg 2;rw[<-CV (i+1) n.kids]
   have j:(n.kids.take (i+1)).length=(n.fF.take i++[s]).length:=by simp[kJ];omega
   obtain⟨Q,L1,q1,L2,q2,u,r,rfl,rfl⟩:=(ck.split j).1 k;obtain⟨rfl,N⟩:=CD.snoc.1 u;refine⟨L1,q1,L2,q2,?_,?_,rfl,rfl⟩
   .rw[l];refine⟨rfl,?_⟩;have e:bp.fF ⟨false,n.cells.take i,n.kids.take (i+1)⟩=n.fF.take i:=by unfold bp.fF;simp[L3]
    rw[e];exact N
   .rw[o];refine⟨rfl,?_⟩;have e:bp.fF ⟨false,n.cells.drop (i+1),n.kids.drop (i+1)⟩=n.fF.drop (i+1):=by unfold bp.fF;simp[JO]
    rw[e];exact r
def xE.leaf {lo:bS}{hi:Option bS}(b:xE G h n lo hi L q):n.leaf=decide (h=0):=by
 cases h with
 |zero=>exact b.1
 |succ h=>exact b.1
def ck.join {c:List Nat}{b:List bS}{lo:bS}{hi:Option bS}(f:ck S c b lo (some s) L1 q1)(d:ck S k2 s2 s hi L2 q2):ck S (c++k2) (b++s::s2) lo hi (L1++L2) (q1++q2):=by
 have e:b++s::s2=(b++[s])++s2:=V
 rw[e];have:=CD.snoc.2 ⟨rfl,f⟩;exact(ck.split this.len).2 ⟨s,L1,q1,L2,q2,this,d,rfl,rfl⟩
def xE.join {b:bp}{lo:bS}{hi:Option bS}(H:xE G h a lo (some s) L1 q1)(F:xE G h b s hi L2 q2)(o:a.ok)(l:b.ok)(hs:s.length<=48):
 xE G h (dK a s b) lo hi (L1++L2) (q1++q2)/\(dK a s b).ok/\(dK a s b).size<=a.size+b.size+52:=by
 have ab:=H.leaf;have Qx:=F.leaf
 have Y:(uv (a.cells.length+b.cells.length)).length<=(uv a.cells.length).length+(uv b.cells.length).length+1:=by
  have key:∀m n,m<=n->(uv (n+m)).length<=(uv n).length+1:=by
   intro m n aa;have h1:(uv (n+m)).length<=(uv (2*n)).length:=xJ J
   have h2:∀n,(uv (2*n)).length<=(uv n).length+1:=by
    intro n
    induction n using Nat.strongRecOn with
    |_ n C=>
     by_cases D:127<n
     .rw[jI D,jI (n:=2*n) J,lx,lx];have h3:=C (n/128) J;have h4:(uv (2*n/128)).length<=(uv (2*(n/128)+1)).length:=xJ J
      by_cases h5:n/128<=63
      .have:(uv (2*(n/128)+1)).length=1:=eY J;omega
      .have h6:(uv (2*(n/128)+1)).length<=(uv (2*(n/128))).length:=by
        have h7:127<2*(n/128):=J
        rw[jI h7,jI (n:=2*(n/128)+1) J,lx,lx];have:(2*(n/128)+1)/128=2*(n/128)/128:=J
        rw[this];exact hI _
       omega
     .have:(uv (2*n)).length<=2:=sF J;rw[eY (n:=n) J];omega
   have:=h2 n;omega
  rcases Nat.le_total a.cells.length b.cells.length with h|h
  .have:=key _ _ h;rw[æ];omega
  .have:=key _ _ h;omega
 cases h with
 |zero=>
  obtain⟨g,z,a3,N⟩:=H;obtain⟨p,w,b3,M⟩:=F;have I:dK a s b=⟨true,a.cells++b.cells,[]⟩:=by unfold dK;rw[gq g]
  rw[I];refine⟨⟨rfl,rS z w,fE.append.2 ⟨L1,q1,L2,q2,a3,b3,rfl,rfl⟩,λc d=>?_⟩,⟨λc d=>?_,?_,rfl,V⟩,?_⟩
  .rcases lh.1 d with d|d
   .obtain⟨x,y⟩:=N c d;exact⟨x,rS y w⟩
   .obtain⟨x,y⟩:=M c d;have Yd:eI lo s:=z;exact⟨(Yd.kI x).le,y⟩
  .rcases lh.1 d with d|d
   .have:=o.cell c d;rw[g]at this;exact this
   .have:=l.cell c d;rw[p]at this;exact this
  .refine Zu.2 ⟨o.sorted,l.sorted,λx f y j=>?_⟩;have h1:=(N x f).2;exact h1.kI (M y j).1
  .rw[cq,cq,cq,g,p];simp only[ix,eQ,km];omega
 |succ h=>
  obtain⟨g,z⟩:=H;obtain⟨p,w⟩:=F;have I:dK a s b=⟨false,a.cells++(gU s::b.cells),a.kids++b.kids⟩:=by unfold dK;rw[B (by rw[g];decide)]
  rw[I];obtain⟨_,T,_⟩:=z.facts Sub.uH;obtain⟨_,Q,_⟩:=w.facts Sub.uH;have r:(gU s).ok false:=⟨hs,λ_=>⟨rfl,rfl,rfl⟩,λh=>(by cases h),λh=>(by cases h)⟩;have W:=o.kR;have X:=l.kR;rw[g,B tW]at W;rw[p,B tW]at X;refine⟨⟨rfl,?_⟩,⟨λc d=>?_,?_,?_,λk v=>?_⟩,?_⟩
  .have e:bp.fF ⟨false,a.cells++(gU s::b.cells),a.kids++b.kids⟩=a.fF++s::b.fF:=by unfold bp.fF;simp[gU]
   rw[e];exact z.join w
  .rcases lh.1 d with d|d
   .have:=o.cell c d;rw[g]at this;exact this
   .rcases ip.1 d with rfl|d
    .exact r
    .have:=l.cell c d;rw[p]at this;exact this
  .have P:∀x∈a.cells,eI x.key s:=λx f=>(T x.key (Ey f)).2;have u:∀x∈b.cells,eI s x.key:=λx f=>(Q x.key (Ey f)).1;refine Zu.2 ⟨o.sorted,ü.2 ⟨λy j=>u y j,l.sorted⟩,λx f y j=>?_⟩;rcases ip.1 j with rfl|j
   .exact P x f
   .exact gu (P x f) (u y j)
  .simp;omega
  .rcases lh.1 v with v|v
   .exact o.Ek k v
   .exact l.Ek k v
  .rw[cq,cq,cq,g,p];have ac:=(kg r).2.2 rfl;have e:(a.cells++gU s::b.cells).length=a.cells.length+b.cells.length+1:=by simp;omega
   have h1:(uv (a.cells.length+b.cells.length+1)).length<=(uv (a.cells.length+b.cells.length)).length+1:=by
    generalize a.cells.length+b.cells.length=m
    induction m using Nat.strongRecOn with
    |_ n C=>
     by_cases D:127<n
     .rw[jI D,jI (n:=n+1) J,lx,lx];have h3:=C (n/128) J;have h4:(uv ((n+1)/128)).length<=(uv (n/128+1)).length:=xJ J;omega
     .have:(uv (n+1)).length<=2:=sF J;rw[eY (n:=n) J];omega
   simp only[pi,ii,eQ,fU,jO,km,e];omega
def ck.TE {f:List Nat}{d:List bS}{lo:bS}{j hi:Option bS}{Lm g:List aT}{pm e:List Nat}(c:ck S f d lo j Lm pm)(p:QG S k2 s2 j hi g e):ck S (f++k2) (d++s2) lo hi (Lm++g) (pm++e):=by
 induction f generalizing d lo Lm pm with
 |nil=>cases d<;>exact c.elim
 |cons k f o=>
  cases d with
  |nil=>
   rw[ck.one]at c;obtain⟨rfl,c⟩:=c;exact ck.focus.2 ⟨j,Lm,pm,g,e,c,p,rfl,rfl⟩
  |cons s d=>
   rw[ck.cons]at c;obtain⟨L1,m,L2,l,a,b,rfl,rfl⟩:=c;rw[ut,ut,ck.cons];exact⟨L1,m,L2++g,l++e,a,o b,V,V⟩
structure CH (G:GM)(l:List Nat):Prop where
 nd:l.Nodup
 n:G.bT+l.length+1=G.aO
def CH.to {G':GM}{l:List Nat}(h:CH G l)(b:l'.Nodup)(d:G'.bT+l'.length=G.bT+l.length)(c:G'.aO=G.aO):CH G' l':=⟨b,by have:=h.n;omega⟩
def CH.perm {l:List Nat}(h:CH G l)(b:l'.Perm l):CH G l':=h.to (b.nodup_iff.2 h.nd) (by rw[b.length_eq]) rfl
structure gQ (G:GM)(L:List aT):Prop where
 ok:wb G
 tree:(G.root=0/\L=[]/\CH G [])\/∃h ps,CH G ps/\Sub G h G.root [] none L ps
def mJ {page:Nat}{x:PC}(h:page∉ps):Kept G (G.put page x) ps:=λq b=>⟨λh=>h,KV _ _ _ _ λe=>h (e▸b)⟩
def Ctx.write {l:List dh}{page:Nat}{lo:bS}{hi:Option bS}{g f:List aT}(u:Ctx G h l page lo hi g f ps)(v:wb G)(m:G.bV page)(p:n.ok)(o:n.size<=512)(r:n.cells≠[])
 (k:xE G h n lo hi L q) (b:CH G (page::(q++ps))):gQ (G.put page (.node n)) (g++(L++f)):=by
 have c:=b.nd;rw[me]at c;have d:page∉q/\page∉ps:=by simpa using c.1
 obtain⟨j,e,w⟩:=(Ctx.kept (G:=G) (G':=G.put page (.node n)) rfl u (mJ d.2)).fill (L:=L) (q:=page::q) ⟨n,q,⟨m,nZ _ _ _,p,o,r⟩,k.kept (mJ d.1),rfl⟩;exact⟨v.put _ _,.inr ⟨_,j,(b.perm e).to (e.nodup_iff.2 b.nd) rfl rfl,w⟩⟩
end
section
variable {n:bp}{S:tM}{ks:List Nat}{ss:List bS}{L:List aT}{ps:List Nat}{G:GM}{h:Nat}{q:List Nat}
def jU (n:bp)(key:bS):Nat:=n.cells.findIdx λc=>decide (eI key c.key)
def uG {l:List dq}(h:jJ l)(p:bS->Bool)(j:∀a b,eI a b->p a=true->p b=true):(∀c∈l.take (l.findIdx λc=>p c.key),p c.key=false)/\∀c∈l.drop (l.findIdx λc=>p c.key),p c.key=true:=by
 induction l with
 |nil=>simp
 |cons a l f=>
  unfold jJ at h;rw[ü]at h;obtain⟨i,g⟩:=f h.2;rw[List.findIdx_cons];cases d:p a.key with
  |true=>
   simp only[cond_true,S6,tu];refine⟨V,λc e=>?_⟩;rcases ip.1 e with rfl|e
   .exact d
   .exact j _ _ (h.1 c e) d
  |false=>
   simp only[cond_false,aNO,List.drop_succ_cons];refine⟨λc e=>?_,g⟩;rcases ip.1 e with rfl|e
   .exact d
   .exact i c e
def sZ (h:jJ n.cells)(key:bS):n.find key<=n.cells.length/\(∀c∈n.cells.take (n.find key),eI c.key key)/\∀c∈n.cells.drop (n.find key),lO key c.key:=by
 obtain⟨i,g⟩:=uG h (λk=>decide (lO key k)) λa b e f=>by
  simp only[ws]at*;exact(f.pT e).le
 refine⟨aNt,λc d=>?_,λc d=>by simpa using g c d⟩;have:=i c d;simp only[aNa]at this;rcases Ei key c.key with h|h
 .exact absurd h this
 .exact h
def Ej (h:jJ n.cells)(key:bS):jU n key<=n.cells.length/\(∀c∈n.cells.take (jU n key),lO c.key key)/\∀c∈n.cells.drop (jU n key),eI key c.key:=by
 obtain⟨i,g⟩:=uG h (λk=>decide (eI key k)) λa b e f=>by
  simp only[ws]at*;exact gu f e
 exact⟨aNt,λc d=>by have:=i c d;simpa[lO]using this,λc d=>by simpa using g c d⟩
def abV (h:jJ n.cells)(key:bS):jU n key=match n.cells[n.find key]? with|some c=>if c.key=key then n.find key+1 else n.find key|none=>n.find key:=by
 obtain⟨F,z,y⟩:=sZ h key;obtain⟨C,u,l⟩:=Ej h key
 have w:n.find key<=jU n key:=by
  rcases wl (jU n key) (n.find key)with v|s
  .have d:jU n key<n.cells.length:=by omega
   have a:=l n.cells[jU n key] (by rw[vT d];exact zt);have b:=z n.cells[jU n key] (by rw[List.mem_iff_getElem];exact⟨jU n key,OH,V⟩);exact absurd a (mc b)
  .exact s
 have i:∀j,n.find key<=j->j<jU n key->∃D:j<n.cells.length,n.cells[j].key=key:=λj o x=>by
  have d:j<n.cells.length:=J
  have a:=u n.cells[j] (by rw[List.mem_iff_getElem];exact⟨j,OH,V⟩);have b:=y n.cells[j] (by rw[List.mem_iff_getElem];exact⟨j-n.find key,Yr,by simp;congr 1;omega⟩);exact⟨d,yr a b⟩
 cases hg:n.cells[n.find key]? with
 |none=>
  rw[List.getElem?_eq_none_iff]at hg;dsimp only;omega
 |some c=>
  obtain⟨d,m⟩:=qo.1 hg;dsimp only
  by_cases f:c.key=key
  .rw[gq f]
   have o:n.find key<jU n key:=by
    rcases wl (n.find key) (jU n key)with h|h
    .exact h
    .have:jU n key=n.find key:=by omega
     have a:=l n.cells[n.find key] (by rw[this,vT d];exact zt);rw[m,f]at a;exact absurd a (hU _)
   have x:jU n key<=n.find key+1:=by
    rcases wl (n.find key+1) (jU n key)with g|g
    .obtain⟨k,e⟩:=i (n.find key) (hI _) o;obtain⟨r,p⟩:=i (n.find key+1) J g;have:=aNB.1 h (n.find key) (n.find key+1) k r J;rw[e,p]at this;exact absurd this (hU _)
    .exact g
   omega
  .rw[B f];rcases wl (n.find key) (jU n key)with h|h
   .obtain⟨k,e⟩:=i (n.find key) (hI _) h;rw[m]at e;exact absurd e f
   .omega
def CD.key (j:∀k lo hi L q,S k lo hi L q->DD lo hi L){lo a key:bS}(h:CD S ks ss lo a L ps)(f:lO lo key)(b:∀s∈ss,lO s key):lO a key:=by
 induction ks generalizing ss lo L ps with
 |nil=>cases ss with
  |nil=>obtain⟨rfl,_⟩:=h;exact f
  |cons s ss=>exact h.elim
 |cons k ks c=>
  cases ss with
  |nil=>exact h.elim
  |cons s ss=>
   obtain⟨o,i,m,g,l,e,rfl,rfl⟩:=h;exact c e (b s V) λt d=>b t (by simp[d])
def QG.key {a hi:Option bS}{key:bS}(h:QG S ks ss a hi L ps)(c:F8 key hi)(b:∀s∈ss,eI key s):F8 key a:=by
 cases ks with
 |nil=>cases ss with
  |nil=>obtain⟨rfl,_⟩:=h;exact c
  |cons s ss=>exact h.elim
 |cons k ks=>
  cases ss with
  |nil=>exact h.elim
  |cons s ss=>obtain⟨rfl,_⟩:=h;exact b s V
def Ctx.descend {l:List dh}{page:Nat}{lo:bS}{hi:Option bS}{r p:List aT}{key:bS}(b:Ctx G (h+1) l page lo hi r p ps)(u:pk G page n)(D:xE G (h+1) n lo hi L q)(T:lO lo key)(Q:F8 key hi):
 ∃g f a e Lm d j pm,n.kids[jU n key]?=some g/\Ctx G h (⟨page,jU n key,n⟩::l) g f a (r++e) (d++p) j/\Sub G h g f a Lm pm/\lO f key/\F8 key a/\L=e++(Lm++d)/\(pm++j).Perm (page::(q++ps)):=by
 obtain⟨W,H,F⟩:=Ej u.ok.sorted key;obtain⟨N,y⟩:=D;have hlen:=y.len;rw[kJ]at hlen;generalize jU n key=i at*;have m:i<n.kids.length:=J
 have o:=y;rw[By n.kids i n.kids[i] (li m)]at o;rw[<-CV i n.fF]at o;have P:(n.kids.take i).length=(n.fF.take i).length:=by rw[pu,pu,kJ];omega
 obtain⟨f,e,C,X,j,w,M,rfl,rfl⟩:=(ck.split P).1 o;obtain⟨a,Lm,pm,d,z,I,v,rfl,rfl⟩:=ck.focus.1 M;refine⟨n.kids[i],f,a,e,Lm,d,_,pm,li m,⟨lo,hi,r,p,ps,e,C,d,z,b,u,N,li m,w,v,rfl,rfl,rfl⟩,I,?_,?_,rfl,?_⟩
 .refine w.key Sub.uH T λs k=>?_;have:s∈(n.cells.take i).map (·.key):=by rw[L3];exact k
  obtain⟨c,b,rfl⟩:=lm.1 this;exact H c b
 .refine v.key Q λs k=>?_;have:s∈(n.cells.drop i).map (·.key):=by rw[JO];exact k
  obtain⟨c,b,rfl⟩:=lm.1 this;exact F c b
 .refine(ê.2 λx=>?_);simp only[ä,â];omega
def tZ (a:wb G){n:Nat}(h:G.bV n):n<=kj:=by
 have:=h.2.1;have:=a.jT;have:=a.size;show n<=2147483647;omega
def Kept.trans {G' a:GM}(h:Kept G G' ps)(k:Kept G' a ps):Kept G a ps:=λq b=>⟨λc=>(k q b).1 ((h q b).1 c),by rw[(k q b).2,(h q b).2]⟩
def wY (a:OE G)(h:G.dI∉ps):Kept G G.alloc ps:=λq c=>⟨λb=>(a.bV q).2 (.inl b),a.cont q λe=>h (e▸c)⟩
structure J7 (G:GM)(b:bp)(G':GM)(r:Nat):Prop where
 ok:wb G'
 not:¬G.bV r
 is:pk G' r b
 kept:∀ps,r∉ps->Kept G G' ps
 root:G'.root=G.root
 free:G'.bT+1=G.bT
 aO:G'.aO=G.aO
 bV:∀q,G'.bV q↔G.bV q\/q=r
 eu:G'.eu.length<=G.eu.length+1
def UF (i:wb G)(f:0<G.bT){b:bp}(g:b.ok)(d:b.size<=512)(e:b.cells≠[]):J7 G b (G.alloc.put G.dI (.node b)) G.dI:=by
 have a:=vL i f;exact⟨a.ok.put _ _,a.not,⟨(a.bV _).2 (.inr rfl),nZ _ _ _,g,d,e⟩,λps c=>(wY a c).trans (mJ c),a.root,a.free,a.aO,a.bV,Ox _ _⟩
def Kz {T k:GM}{page r r':Nat}{a b:bp}{i:Nat}{s:bS}(hG:wb G)(z:G.bV page)(hn:n.ok)(H:CE n a b i s)(my:xE G h n [] none L q)(I:CH G (page::q))
 (d:J7 (G.put page (.node a)) b T r) (c:J7 T ⟨false,[gU s],[page,r]⟩ k r'):gQ (k.eS r') L:=by
 obtain⟨Q,j,P,q2,N,M,rfl,rfl⟩:=my.cut hn H;have u:=I.nd;rw[me]at u;have f:page∉j/\page∉q2:=by simpa using u.1
 have u1:=N.aO;have u2:=M.aO;have l:r≠page/\r∉j/\r∉q2:=⟨λe=>d.not (e▸z),λh=>d.not (u1 r h),λh=>d.not (u2 r h)⟩;have g:r'≠page/\r'≠r/\r'∉j/\r'∉q2:=⟨λe=>c.not ((d.bV _).2 (.inl (e▸z))),λe=>c.not ((d.bV _).2 (.inr e)),λh=>c.not ((d.bV _).2 (.inl (u1 r' h))),λh=>c.not ((d.bV _).2 (.inl (u2 r' h)))⟩;have D:∀ps,page∉ps->r∉ps->r'∉ps->Kept G (k.eS r') ps:=λps p o m=>((mJ p).trans (d.kept ps o)).trans (c.kept ps m);have v:∀ps,r∉ps->r'∉ps->Kept (G.put page (.node a)) (k.eS r') ps:=λps o m=>(d.kept ps o).trans (c.kept ps m);have TJ:=H.neA;refine⟨c.ok.eS _,.inr ⟨h+1,r'::((page::j)++(r::q2)),?_,⟨false,[gU s],[page,r]⟩,_,⟨c.is.bV,c.is.cont,c.is.ok,c.is.size,c.is.full⟩,⟨rfl,?_⟩,rfl⟩⟩
 .refine I.to ?_ (by have p:=d.free;have o:=c.free;have m:(k.eS r').bT=k.bT:=rfl;rw[oe]at p;simp only[lx,km];omega) (c.aO.trans d.aO);have C:=u.2;rw[zy]at C;obtain⟨Y,X,W⟩:=C;simp only[ut,me,ip,lh,rt,zy]
  exact⟨⟨g.1,g.2.2.1,g.2.1,g.2.2.2⟩,⟨f.1,ny l.1,f.2⟩,Y,⟨l.2.2,X⟩,λx F y w=>by
   rcases w with rfl|w
   .exact λe=>l.2.1 (e▸F)
   .exact W x F y w⟩
 .show ck (Sub (k.eS r') h) [page,r] [s] [] none (Q++P) _;rw[ck.cons];refine⟨Q,page::j,P,r::q2,⟨a,j,?_,N.kept (D j f.1 l.2.1 g.2.2.1),rfl⟩,?_,rfl,rfl⟩
  .exact pk.kept (G:=G.put page (.node a)) ⟨z,nZ _ _ _,H.okA,H.szA,TJ⟩ (v [page] (by simpa using l.1) (by simpa using g.1))
  .rw[ck.one];refine⟨rfl,b,q2,d.is.kept (c.kept [r] (by simpa using g.2.1)),M.kept (D q2 f.2 l.2.2 g.2.2.2),rfl⟩
end
section
variable {s:bS}{L:List aT}{q:List Nat}{n:bp}{i r:Nat}
def more (n:bp)(i:Nat)(s:bS)(r:Nat):bp:=⟨false,n.cells.take i++gU s::n.cells.drop i,n.kids.take (i+1)++r::n.kids.drop (i+1)⟩
def Pq (n:bp)(i:Nat)(s:bS)(r:Nat):(more n i s r).fF=n.fF.take i++([s]++n.fF.drop i):=by
 unfold bp.fF more;simp[gU,L3,JO]
def uZ (h:s.length<=48):(gU s).ok false:=⟨h,λ_=>⟨rfl,rfl,rfl⟩,λh=>(by cases h),λh=>(by cases h)⟩
def FY {S:tM}(f:∀k lo hi L q,S k lo hi L q->DD lo hi L){m:bp}{lo:bS}{hi:Option bS}(b:m.leaf=false)(e:∀c∈m.cells,c.ok false)(d:∀k∈m.kids,k<=kj)(h:ck S m.kids m.fF lo hi L q):m.ok:=by
 obtain⟨_,_,a⟩:=h.facts f;refine⟨by rw[b];exact e,?_,?_,d⟩
 .unfold bp.fF at a;rw[ú]at a;exact a
 .rw[b,B tW,h.len,kJ]
def jy (leaf:Bool)(l:List dq)(i:Nat):(cY leaf (l.take i)).length+(cY leaf (l.drop i)).length=(cY leaf l).length:=by
 rw[<-km,<-eQ,CV]
def tB (l:List Nat)(i:Nat):(fo (l.take i)).length+(fo (l.drop i)).length=(fo l).length:=by
 rw[<-km,<-jO,CV]
def VC (m:Nat):(uv (m+1)).length<=(uv m).length+1:=by
 induction m using Nat.strongRecOn with
 |_ n a=>
  by_cases b:127<n
  .rw[jI b,jI (n:=n+1) J,lx,lx];have d:=a (n/128) J;have c:(uv ((n+1)/128)).length<=(uv (n/128+1)).length:=xJ J;omega
  .have:(uv (n+1)).length<=2:=sF J;rw[eY (n:=n) J];omega
def Pp (c:n.leaf=false)(hi:i<=n.cells.length)(a:s.length<=48)(b:r<=kj):(more n i s r).size<=n.size+55:=by
 rw[cq,cq,c];have h1:=jy false n.cells i;have h2:=tB n.kids (i+1);have g:=(kg (uZ a)).2.2 rfl;have f:=(gf r b).2;have d:=VC n.cells.length;have e:(more n i s r).cells.length=n.cells.length+1:=by unfold more;simp;omega
 rw[e];unfold more;simp only[pi,ii,eQ,fU,jO,qj,km];omega
def OU {G f:GM}{d:dh}{l:List dh}{h page:Nat}{lo:bS}{hi:Option bS}{Ll Lr:List aT}{ps:List Nat}{a b:bp}(hc:Ctx G h (d::l) page lo hi Ll Lr ps)(hG:wb G)(hu:G.bV page)(hn:n.ok)(H:CE n a b i s)(my:xE G h n lo hi L q)(hA:CH G (page::(q++ps)))
 (m:J7 (G.put page (.node a)) b f r):d.at_<=d.n.cells.length/\d.n.leaf=false/\(more d.n d.at_ s r).ok/\(more d.n d.at_ s r).size<=600/\f.bV d.page/\
  ∃v w M N L' g q',Ctx f (h+1) l d.page v w M N g/\xE f (h+1) (more d.n d.at_ s r) v w L' q'/\CH f (d.page::(q'++g))/\M++(L'++N)=Ll++(L++Lr):=by
 have T:=hA.nd;obtain⟨v,w,M,N,g,La,o,Lb,u,d1,p,I,d4,Y,d6,rfl,rfl,rfl⟩:=hc;obtain⟨L1,q1,L2,q2,c1,c2,rfl,rfl⟩:=my.cut hn H;obtain⟨mz,_⟩:=qo.1 d4;have uB:=p.ok.kR;rw[I,B tW]at uB;have Hd:d.at_<=d.n.cells.length:=J
 have Dh:s.length<=48:=by rw[H.key];exact(hn.cell _ (mp ..)).key
 have D:=tZ m.ok m.is.bV;have z:∀x,G.bV x->x≠r:=λx hx e=>m.not (e▸hx)
 have y:∀x,x∈o\/x∈u\/x∈g\/x=d.page->G.bV x:=λx hx=>by
  have W:=Ctx.aO (l:=d::l) (page:=page) (h:=h) ⟨v,w,M,N,g,La,o,Lb,u,d1,p,I,d4,Y,d6,rfl,rfl,rfl⟩;refine W x ?_;simp only[ip,lh];rcases hx with h|h|h|h<;>simp[h]
 have Md:=T;simp only[me,lh,ip,rt,zy]at T;obtain⟨⟨⟨y1,y2⟩,y3,y4,y5,y6⟩,⟨y7,y8,y9⟩,⟨⟨z1,z2,z3⟩,z4,⟨z5,z6,z7⟩,z8⟩,z9⟩:=T;have kp:=λps S x2=>(mJ S).trans (m.kept ps x2)
 have P:Kept G f (d.page::(o++(u++g))):=kp _ (by simp only[ip,lh,rt];exact⟨y3,y4,y5,y6⟩) (λhr=>by
  simp only[ip,lh]at hr;refine z r (y r ?_) rfl;rcases hr with h|h|h|h<;>simp[h])
 have TJ:=H.neA;have F:r∉q1:=λhh=>z r (c1.aO r hh) rfl;have L6:r∉q2:=λhh=>z r (c2.aO r hh) rfl;have C:r≠page:=λe=>z page hu e.symm;have sa:Sub f h page lo (some s) L1 (page::q1):=⟨a,q1,pk.kept (G:=G.put page (.node a)) ⟨hu,nZ _ _ _,H.okA,H.szA,TJ⟩ (m.kept _ (by simpa using C)),c1.kept (kp _ y1 F),rfl⟩;have sb:Sub f h r s hi L2 (r::q2):=⟨b,q2,m.is,c2.kept (kp _ y2 L6),rfl⟩;have aa:=ck.cons.2 ⟨L1,_,L2,_,sa,ck.one.2 ⟨rfl,sb⟩,rfl,rfl⟩;have ka:=Y.mono (S':=Sub f h) λ_ _ _ _ qq hq X=>X.kept (P.sub λx hx=>S3);have kb:=d6.mono (S':=Sub f h) λ_ _ _ _ qq hq X=>X.kept (P.sub λx hx=>S3);have sW:d.n.kids.take (d.at_+1)=d.n.kids.take d.at_++[page]:=by rw[su mz];congr 2
 have fJ:ck (Sub f h) (more d.n d.at_ s r).kids (more d.n d.at_ s r).fF v w (La++((L1++L2)++Lb)) (o++(((page::q1)++(r::q2))++u)):=by
  rw[Pq]
  have e:(more d.n d.at_ s r).kids=d.n.kids.take d.at_++([page,r]++d.n.kids.drop (d.at_+1)):=by
   show d.n.kids.take (d.at_+1)++r::_=_;rw[sW];simp
  rw[e];exact(ck.split Y.len).2 ⟨lo,La,o,_,_,ka,aa.TE kb,rfl,rfl⟩
 have oD:(more d.n d.at_ s r).ok:=by
  refine FY Sub.uH rfl (λc hc=>?_) (λk j=>?_) fJ
  .have hc:=hc;have iN:∀c∈d.n.cells,c.ok false:=by have:=p.ok.cell;rw[I]at this;exact this
   rcases lh.1 hc with hc|hc
   .exact iN c (ww hc)
   .rcases ip.1 hc with rfl|hc
    .exact uZ Dh
    .exact iN c (zR hc)
  .have j:=j;rcases lh.1 j with j|j
   .exact p.ok.Ek k (ww j)
   .rcases ip.1 j with rfl|j
    .exact D
    .exact p.ok.Ek k (zR j)
 refine⟨Hd,I,oD,?_,P d.page (by simp)|>.1 p.bV,v,w,M,N,_,g,_,Ctx.kept (G:=G) m.root d1 (P.sub λx hx=>Hs),⟨rfl,fJ⟩,?_,V⟩
 .have:=Pp I Hd Dh D (n:=d.n);have:=p.size;omega
 .have Q:=λx hx=>z x (y x hx)
  have hP:(d.page::((o++(((page::q1)++(r::q2))++u))++g)).Perm (r::(page::((q1++q2)++(d.page::(o++(u++g)))))):=by
   refine(ê.2 λx=>?_);simp only[ä,â];omega
  refine hA.to (hP.nodup_iff.2 (me.2 ⟨?_,Md⟩)) (by have S:=m.free;rw[oe]at S;rw[hP.length_eq];simp only[lx,km];omega) m.aO;simp only[ip,lh,rt];exact⟨C,⟨F,L6⟩,λe=>Q _ (.inr (.inr (.inr rfl))) e.symm,λh=>Q _ (.inl h) rfl,λh=>Q _ (.inr (.inl h)) rfl,λh=>Q _ (.inr (.inr (.inl h))) rfl⟩
end
section
variable {i:Nat}{G:GM}{sm:dh}{h:Nat}{Ll Lr L:List aT}{ps q:List Nat}{n:bp}{left:Nat}{second:bp}{sep:bS}{pf pn:Nat}{LL:List aT}
structure vQ where
 mw:bS
 fB:Option bS
 AO:List aT
 AN:List aT
 rz:List Nat
 La:List aT
 pa:List Nat
 Lb:List aT
 pb:List Nat
 LM:bS
 xB:Option bS
 L1:List aT
 q1:List Nat
 L2:List aT
 q2:List Nat
structure xy (G:GM)(h:Nat)(sm:dh)(l:List dh)(left:Nat)(first second:bp)(sep:bS)(pf pn:Nat)(LL:List aT)(aO:List Nat)(d:vQ):Prop where
 ctx:Ctx G (h+1) l sm.page d.mw d.fB d.AO d.AN d.rz
 node:pk G sm.page sm.n
 inner:sm.n.leaf=false
 Sw:sm.n.kids[left]?=some pf
 WM:sm.n.kids[left+1]?=some pn
 arv:sm.n.fF[left]?=some sep
 kl:CD (Sub G h) (sm.n.kids.take left) (sm.n.fF.take left) d.mw d.LM d.La d.pa
 c1:xE G h first d.LM (some sep) d.L1 d.q1
 c2:xE G h second sep d.xB d.L2 d.q2
 kr:QG (Sub G h) (sm.n.kids.drop (left+2)) (sm.n.fF.drop (left+1)) d.xB d.fB d.Lb d.pb
 total:d.AO++((d.La++((d.L1++d.L2)++d.Lb))++d.AN)=LL
 perm:(pf::pn::((d.q1++d.q2)++(sm.page::(d.pa++(d.pb++d.rz))))).Perm aO
 u1:G.bV pf
 u2:G.bV pn
 ok1:first.ok
 ok2:second.ok
 full:first.cells≠[]\/second.cells≠[]
def EF {a:Type}{l:List a}{x:a}{r:List a}(h:l.drop i=x::r):l[i]?=some x/\l.drop (i+1)=r:=by
 have hi:i<l.length:=by
  rcases wl i l.length with h2|h2
  .exact h2
  .rw[ys h2]at h;cases h
 rw[vT hi]at h;simp only[IP]at h;exact⟨by rw[li hi,h.1],h.2⟩
def OW {l:List dh}{page:Nat}{lo:bS}{hi:Option bS}(I:Ctx G h (sm::l) page lo hi Ll Lr ps)(F:G.bV page)(H:n.ok)(y:xE G h n lo hi L q)(w:sm.at_+1<sm.n.kids.length):
 ∃a pn sep d,pk G pn a/\xy G h sm l sm.at_ n a sep page pn (Ll++(L++Lr)) (page::(q++ps)) d:=by
 obtain⟨z,S,AO,AN,o,La,u,Lb,pb,d1,j,g,d4,d5,f,rfl,rfl,rfl⟩:=I;have m:=j.ok.kR;rw[g,B tW]at m;obtain⟨D,r2,e⟩:∃k r,sm.n.kids.drop (sm.at_+1)=k::r:=⟨_,_,vT w⟩;obtain⟨s2,t2,c⟩:∃s t,sm.n.fF.drop sm.at_=s::t:=⟨_,_,vT (by rw[kJ];omega)⟩;rw[e,c]at f;obtain⟨rfl,Y⟩:=f;obtain⟨C,L1,p1,L2,v,X,W,rfl,rfl⟩:=ck.focus.1 Y;obtain⟨a,p,b,T,rfl⟩:=X;obtain⟨Q,P⟩:=EF e;obtain⟨N,M⟩:=EF c;refine⟨a,D,s2,⟨z,S,AO,AN,o,La,u,L2,v,lo,C,L,q,L1,p⟩,b,⟨d1,j,g,d4,Q,N,d5,y,T,by rw[P,M];exact W,V,?_,F,b.bV,H,b.ok,.inr b.full⟩⟩;refine(ê.2 λx=>?_);simp only[ä,â];omega
def Rq {l:List dh}{page:Nat}{lo:bS}{hi:Option bS}{b:Nat}(I:Ctx G h (sm::l) page lo hi Ll Lr ps)(F:G.bV page)(H:n.ok)(C:xE G h n lo hi L q)(z:sm.at_=b+1):
 ∃a pf sep d,pk G pf a/\xy G h sm l b a n sep pf page (Ll++(L++Lr)) (page::(q++ps)) d:=by
 obtain⟨D,M,AO,AN,u,La,pa,X,w,W,r,p,f,e,o,rfl,rfl,rfl⟩:=I;have s:=r.ok.kR;rw[p,B tW]at s;obtain⟨g,_⟩:=qo.1 f;rw[z]at f e o g;have j:b<sm.n.kids.length:=J
 have k:b<sm.n.fF.length:=by rw[kJ];omega
 rw[su j,su k]at e;obtain⟨m,L1,y,L2,p2,T,S,rfl,rfl⟩:=(CD.append (by rw[pu,pu];omega)).1 e;obtain⟨Y,p3,L4,p4,Q,⟨P,rfl,rfl⟩,rfl,rfl⟩:=S;subst P;obtain⟨a,v,c,N,rfl⟩:=Q;refine⟨a,sm.n.kids[b],sm.n.fF[b],⟨D,M,AO,AN,u,L1,y,X,w,m,hi,Y,v,L,q⟩,c,⟨W,r,p,li j,f,li k,T,N,C,o,V,?_,c.bV,F,c.ok,H,.inl c.full⟩⟩;refine(ê.2 λx=>?_);simp only[ä,â,List.count_nil];omega
def vW (n:bp)(i:Nat):bp:=⟨false,n.cells.take i++n.cells.drop (i+1),n.kids.take (i+1)++n.kids.drop (i+2)⟩
def kK (n:bp)(i:Nat)(s:bS):bp:=⟨false,n.cells.take i++gU s::n.cells.drop (i+1),n.kids⟩
structure DC (G:GM)(h:Nat)(page:Nat)(l:List dh)(m:bp)(LL:List aT):Prop where
 ok:wb G
 bV:G.bV page
 Qr:m.ok
 ctx:∃lo hi Ll Lr L ps q,Ctx G h l page lo hi Ll Lr ps/\xE G h m lo hi L q/\CH G (page::(q++ps))/\Ll++(L++Lr)=LL
def xq {l:List dh}{first:bp}{f:List Nat}{d:vQ}(b:xy G h sm l left first second sep pf pn LL f d):sep.length<=48/\left<sm.n.cells.length/\sm.n.kids.length=sm.n.cells.length+1/\∃c,sm.n.cells[left]?=some c/\c.key=sep:=by
 have hs:=b.arv;unfold bp.fF at hs;rw[ul]at hs;have a:=b.node.ok.kR;rw[b.inner,B tW]at a;cases hc:sm.n.cells[left]? with
 |none=>rw[hc]at hs;cases hs
 |some c=>
  rw[hc]at hs;have:=Â hs;obtain⟨e,g⟩:=qo.1 hc;exact⟨by rw[<-this];exact(b.node.ok.cell c (Do hc)).key,e,a,c,rfl,this⟩
def JI {l:List dh}{first:bp}{z:List Nat}{d:vQ}(b:xy G h sm l left first second sep pf pn LL z d)(hG:wb G)(hA:CH G z)(hs:(dK first sep second).size<=512):
 (G.put pf (.node (dK first sep second))).bV pn/\DC ((G.put pf (.node (dK first sep second))).drop pn) (h+1) sm.page l (vW sm.n left) LL/\(vW sm.n left).size<=512/\((G.put pf (.node (dK first sep second))).drop pn).bT=G.bT+1:=by
 obtain⟨m,hl,uB,c,hc,xm⟩:=xq b;obtain⟨j1,j2,j3⟩:=b.c1.join b.c2 b.ok1 b.ok2 m;have D:=hA.perm b.perm;have C:=D.nd;have s:=C;simp only[me,lh,ip,rt,zy]at s;obtain⟨⟨N,⟨M,I⟩,x4,x5,x6,x7⟩,⟨⟨H,F⟩,cG,cN,cP,cJ⟩,-⟩:=s;have g:=qV (hG.put pf (.node (dK first sep second))) (show(G.put pf _).bV pn from b.u2)
 have T:(dK first sep second).cells≠[]:=by
  unfold dK;split
  .rcases b.full with h|h<;>simp[h]
  .simp
 have u:∀ps,pf∉ps->pn∉ps->Kept G ((G.put pf (.node (dK first sep second))).drop pn) ps:=λps a b q hq=>⟨λhu=>(g.bV q).2 ⟨hu,λe=>b (e▸hq)⟩,KV _ _ _ _ λe=>a (e▸hq)⟩;have Y:=N
 have P:Sub ((G.put pf (.node (dK first sep second))).drop pn) h pf d.LM d.xB (d.L1++d.L2) (pf::(d.q1++d.q2)):=
  ⟨_,_,⟨(g.bV pf).2 ⟨b.u1,Y⟩,nZ _ _ _,j2,hs,T⟩,j1.kept (u _ (by simp;exact⟨M,I⟩) (by simp;exact⟨H,F⟩)),rfl⟩
 have j:Kept G ((G.put pf (.node (dK first sep second))).drop pn) (sm.page::(d.pa++(d.pb++d.rz))):=u _ adS aeb;have X:=b.kl.mono (S':=Sub ((G.put pf (.node (dK first sep second))).drop pn) h) λ_ _ _ _ Q hq o=>o.kept (j.sub λx hx=>S3);have W:=b.kr.mono (S':=Sub ((G.put pf (.node (dK first sep second))).drop pn) h) λ_ _ _ _ Q hq o=>o.kept (j.sub λx hx=>S3);obtain⟨S,p⟩:=qo.1 b.Sw
 have y:ck (Sub ((G.put pf (.node (dK first sep second))).drop pn) h) (vW sm.n left).kids (vW sm.n left).fF d.mw d.fB (d.La++((d.L1++d.L2)++d.Lb)) (d.pa++((pf::(d.q1++d.q2))++d.pb)):=by
  have e1:(vW sm.n left).fF=sm.n.fF.take left++([]++sm.n.fF.drop (left+1)):=by unfold bp.fF vW;simp[L3,JO]
  have e2:(vW sm.n left).kids=sm.n.kids.take left++([pf]++sm.n.kids.drop (left+2)):=by
   show sm.n.kids.take (left+1)++_=_;rw[su S,p];simp
  rw[e1,e2];exact(ck.split b.kl.len).2 ⟨d.LM,d.La,d.pa,_,_,X,ck.TE (ck.one.2 ⟨rfl,P⟩) W,rfl,rfl⟩
 have v:∀c∈sm.n.cells,c.ok false:=acb
 have r:(vW sm.n left).ok:=by
  refine FY Sub.uH rfl (λc hc=>?_) (λk f=>?_) y
  .have hc:=hc;rcases lh.1 hc with hc|hc
   .exact v c (ww hc)
   .exact v c (zR hc)
  .have f:=f;rcases lh.1 f with f|f
   .exact b.node.ok.Ek k (ww f)
   .exact b.node.ok.Ek k (zR f)
 refine⟨b.u2,⟨g.ok,(j sm.page V).1 b.node.bV,r,d.mw,d.fB,d.AO,d.AN,_,d.rz,_,Ctx.kept (G:=G) (G':=(G.put pf (.node (dK first sep second))).drop pn) rfl b.ctx (j.sub λx hx=>Hs),⟨rfl,y⟩,?_,b.total⟩,?_,g.free⟩
 .have w:(pn::(sm.page::((d.pa++((pf::(d.q1++d.q2))++d.pb))++d.rz))).Perm (pf::pn::((d.q1++d.q2)++(sm.page::(d.pa++(d.pb++d.rz))))):=by
   refine(ê.2 λx=>?_);simp only[ä,â];omega
  exact D.to (me.1 (w.nodup_iff.2 C)).2 (by have x:=w.length_eq;rw[g.free,oe];simp only[lx,km]at x⊢;omega) rfl
 .have:=b.node.size;rw[cq,b.inner]at this;rw[cq];have h1:=jy false sm.n.cells left
  have h2:(cY false (sm.n.cells.drop (left+1))).length<=(cY false (sm.n.cells.drop left)).length:=by
   rw[vT hl,fU,km];omega
  have h3:=tB sm.n.kids (left+1)
  have h4:(fo (sm.n.kids.drop (left+2))).length<=(fo (sm.n.kids.drop (left+1))).length:=by
   rw[vT (show left+1<sm.n.kids.length from J)];show _<=(fo (_::sm.n.kids.drop (left+2))).length;rw[qj,km];omega
  have e:(vW sm.n left).cells.length=sm.n.cells.length-1:=by unfold vW;simp;omega
  have h5:(uv (sm.n.cells.length-1)).length<=(uv sm.n.cells.length).length:=xJ J;rw[e];unfold vW;simp only[pi,ii,eQ,jO,km]at this⊢;omega
def GJ {l:List dh}{first:bp}{N:List Nat}{d:vQ}(b:xy G h sm l left first second sep pf pn LL N d)(hG:wb G)(hA:CH G N){a c:bp}{s:bS}(H:CE (dK first sep second) a c i s):
 DC ((G.put pf (.node a)).put pn (.node c)) (h+1) sm.page l (kK sm.n left s) LL/\(kK sm.n left s).size<=600/\(G.put pf (.node a)).bV pn/\((G.put pf (.node a)).put pn (.node c)).bT=G.bT:=by
 obtain⟨m,hl,uB,c0,BZ,xm⟩:=xq b;obtain⟨j1,D,j3⟩:=b.c1.join b.c2 b.ok1 b.ok2 m;have Q:s.length<=48:=by rw[H.key];exact(D.cell _ (mp ..)).key
 obtain⟨y,g,w,f,c1,c2,eL,eq⟩:=j1.cut D H;have z:=hA.perm b.perm;rw[eq]at z;have P:=z.nd;have C:=P;simp only[me,lh,ip,rt,zy]at C;obtain⟨⟨x1,⟨x2,Y⟩,x4,x5,x6,x7⟩,⟨⟨X,W⟩,cG,cN,cP,cJ⟩,-⟩:=C;have o:∀ps,pf∉ps->pn∉ps->Kept G ((G.put pf (.node a)).put pn (.node c)) ps:=λps T S=>(mJ T).trans (mJ S)
 have sa:Sub ((G.put pf (.node a)).put pn (.node c)) h pf d.LM (some s) y (pf::g):=
  ⟨a,g,⟨b.u1,(KV _ _ _ _ x1).trans (nZ _ _ _),H.okA,H.szA,H.neA⟩,c1.kept (o _ x2 X),rfl⟩
 have sc:Sub ((G.put pf (.node a)).put pn (.node c)) h pn s d.xB w (pn::f):=
  ⟨c,f,⟨b.u2,nZ _ _ _,H.okB,H.szB,H.neB⟩,c2.kept (o _ Y W),rfl⟩
 have j:Kept G ((G.put pf (.node a)).put pn (.node c)) (sm.page::(d.pa++(d.pb++d.rz))):=o _ adS aeb;have ka:=b.kl.mono (S':=Sub ((G.put pf (.node a)).put pn (.node c)) h) λ_ _ _ _ qq hq p=>p.kept (j.sub λx hx=>S3);have kb:=b.kr.mono (S':=Sub ((G.put pf (.node a)).put pn (.node c)) h) λ_ _ _ _ qq hq p=>p.kept (j.sub λx hx=>S3);obtain⟨qA,u⟩:=qo.1 b.Sw;obtain⟨nL,r⟩:=qo.1 b.WM
 have M:ck (Sub ((G.put pf (.node a)).put pn (.node c)) h) (kK sm.n left s).kids (kK sm.n left s).fF d.mw d.fB (d.La++((y++w)++d.Lb)) (d.pa++(((pf::g)++(pn::f))++d.pb)):=by
  have e1:(kK sm.n left s).fF=sm.n.fF.take left++([s]++sm.n.fF.drop (left+1)):=by unfold bp.fF kK;simp[gU,L3,JO]
  have e2:(kK sm.n left s).kids=sm.n.kids.take left++([pf,pn]++sm.n.kids.drop (left+2)):=by
   show sm.n.kids=_
   conv=>lhs;rw[<-CV left sm.n.kids,vT qA,vT nL,u,r]
   rfl
  rw[e1,e2];exact(ck.split b.kl.len).2 ⟨d.LM,d.La,d.pa,_,_,ka,ck.TE (ck.cons.2 ⟨y,_,w,_,sa,ck.one.2 ⟨rfl,sc⟩,rfl,rfl⟩) kb,rfl,rfl⟩
 have F:∀c∈sm.n.cells,c.ok false:=acb
 have v:(kK sm.n left s).ok:=by
  refine FY Sub.uH rfl (λc hc=>?_) (λk hk=>b.node.ok.Ek k hk) M;have hc:=hc;rcases lh.1 hc with hc|hc
  .exact F c (ww hc)
  .rcases ip.1 hc with rfl|hc
   .exact uZ Q
   .exact F c (zR hc)
 refine⟨⟨(hG.put _ _).put _ _,(j sm.page V).1 b.node.bV,v,d.mw,d.fB,d.AO,d.AN,_,d.rz,_,Ctx.kept (G:=G) (G':=(G.put pf (.node a)).put pn (.node c)) rfl b.ctx (j.sub λx hx=>Hs),⟨rfl,M⟩,?_,by rw[<-eL];exact b.total⟩,?_,b.u2,rfl⟩
 .have I:(sm.page::((d.pa++(((pf::g)++(pn::f))++d.pb))++d.rz)).Perm (pf::pn::((g++f)++(sm.page::(d.pa++(d.pb++d.rz))))):=by
   refine(ê.2 λx=>?_);simp only[ä,â];omega
  exact(z.perm I).to (I.nodup_iff.2 P) rfl rfl
 .have:=b.node.size;rw[cq,b.inner]at this;rw[cq];have h1:=jy false sm.n.cells left
  have h2:(cY false (sm.n.cells.drop (left+1))).length<=(cY false (sm.n.cells.drop left)).length:=by
   rw[vT hl,fU,km];omega
  have h3:=(kg (uZ Q)).2.2 rfl;have e:(kK sm.n left s).cells.length=sm.n.cells.length:=by unfold kK;simp;omega
  rw[e];unfold kK;simp only[pi,ii,eQ,fU,km]at this⊢;omega
end
section
variable {p:aT->Bool}{Aq0 Bq0:List aT}{v:List UInt8}
def oO (L:List aT)(key:bS)(v:List UInt8):List aT:=L.filter (λx=>decide (eI x.1 key))++(key,v)::L.filter (λx=>decide (eI key x.1))
def mM (L:List aT)(key:bS):List aT:=L.filter (λx=>decide (eI x.1 key))++L.filter (λx=>decide (eI key x.1))
def ey (L:List aT)(key:bS):Option (List UInt8):=(L.find? λx=>decide (x.1=key)).map (·.2)
def ta {L:List aT}(h:∀x∈L,p x=true):L.filter p=L:=List.filter_eq_self.2 h
def oF {L:List aT}(h:∀x∈L,p x=false):L.filter p=[]:=List.filter_eq_nil_iff.2 λx a=>by simp[h x a]
def Br {key:bS}(c:∀x∈Aq0,eI x.1 key)(b:∀x∈Bq0,eI key x.1):(Aq0++Bq0).filter (λx=>decide (eI x.1 key))=Aq0/\(Aq0++Bq0).filter (λx=>decide (eI key x.1))=Bq0:=by
 rw[TB,TB];refine⟨?_,?_⟩
 .rw[ta λx a=>by simpa using c x a,oF λx a=>by simpa using mc (b x a),zo]
 .rw[oF λx a=>by simpa using mc (c x a),ta λx a=>by simpa using b x a,ow]
def yp {key:bS}(c:∀x∈Aq0,eI x.1 key)(b:∀x∈Bq0,eI key x.1):(Aq0++(key,v)::Bq0).filter (λx=>decide (eI x.1 key))=Aq0/\(Aq0++(key,v)::Bq0).filter (λx=>decide (eI key x.1))=Bq0:=by
 have a:decide (eI key key)=false:=by simpa using hU key
 rw[TB,TB,Ep,Ep];simp only[a,pi,ii];rw[<-TB,<-TB];exact Br c b
def RO {key:bS}(b:∀x∈Aq0,eI x.1 key)(a:∀x∈Bq0,eI key x.1):oO (Aq0++Bq0) key v=Aq0++(key,v)::Bq0:=by
 unfold oO;obtain⟨d,c⟩:=Br b a;rw[d,c]
def RN {key:bS}{w:List UInt8}(b:∀x∈Aq0,eI x.1 key)(a:∀x∈Bq0,eI key x.1):oO (Aq0++(key,w)::Bq0) key v=Aq0++(key,v)::Bq0:=by
 unfold oO;obtain⟨d,c⟩:=yp (v:=w) b a;rw[d,c]
def Uh {key:bS}{w:List UInt8}(b:∀x∈Aq0,eI x.1 key)(a:∀x∈Bq0,eI key x.1):mM (Aq0++(key,w)::Bq0) key=Aq0++Bq0:=by
 unfold mM;obtain⟨d,c⟩:=yp (v:=w) b a;rw[d,c]
def Ui {key:bS}(b:∀x∈Aq0,eI x.1 key)(a:∀x∈Bq0,eI key x.1):mM (Aq0++Bq0) key=Aq0++Bq0:=by
 unfold mM;obtain⟨d,c⟩:=Br b a;rw[d,c]
def Jh {key:bS}{w:List UInt8}(b:∀x∈Aq0,eI x.1 key):ey (Aq0++(key,w)::Bq0) key=some w:=by
 unfold ey;rw[aOc]
 have:Aq0.find? (λx=>decide (x.1=key))=none:=by
  rw[aNV];intro x a;simpa using (b x a).ne
 rw[this];simp
def TG {key:bS}(c:∀x∈Aq0,eI x.1 key)(b:∀x∈Bq0,eI key x.1):ey (Aq0++Bq0) key=none:=by
 unfold ey
 have:(Aq0++Bq0).find? (λx=>decide (x.1=key))=none:=by
  rw[aNV];intro x a;rcases lh.1 a with a|a
  .simpa using (c x a).ne
  .simpa using ny (b x a).ne
 rw[this];rfl
def xu (G:GM)(key:bS)(f:dh)(rest:List dh)(L:List aT):Prop:=
 ∃lo hi Ll Lr Lm ps q,Ctx G 0 rest f.page lo hi Ll Lr ps/\pk G f.page f.n/\xE G 0 f.n lo hi Lm q/\lO lo key/\F8 key hi/\CH G (f.page::(q++ps))/\Ll++(Lm++Lr)=L/\f.at_=f.n.find key
structure qv (G:GM)(key:bS)(f:dh)(rest:List dh)(L:List aT)(lo:bS)(hi:Option bS)(Ll Lr:List aT)(ps:List Nat)(Lt:List aT)(pt:List Nat)(Ld:List aT)(pd:List Nat):Prop where
 ctx:Ctx G 0 rest f.page lo hi Ll Lr ps
 node:pk G f.page f.n
 leaf:f.n.leaf=true
 lt:F8 lo hi
 klo:lO lo key
 khi:F8 key hi
 nd:CH G (f.page::((pt++pd)++ps))
 total:Ll++((Lt++Ld)++Lr)=L
 at_:f.at_=f.n.find key
 le:f.at_<=f.n.cells.length
 cl:fE G (f.n.cells.take f.at_) Lt pt
 cd:fE G (f.n.cells.drop f.at_) Ld pd
 Dz:∀c∈f.n.cells,lO lo c.key/\F8 c.key hi
 kt:∀x∈Lt,eI x.1 key
 kd:∀x∈Ld,lO key x.1
 kl:∀x∈Ll,eI x.1 key
 kr:∀x∈Lr,eI key x.1
def WE {key:bS}{hi:Option bS}{k:bS}(h:F8 key hi)(a:leh hi k):eI key k:=by
 cases hi with
 |none=>exact a.elim
 |some m=>have h:eI key m:=h;exact h.kI a
def qN {G:GM}{a:List dq}{L:List aT}{ps:List Nat}(h:fE G a L ps){x:aT}(b:x∈L):∃c∈a,c.key=x.1:=by
 have:x.1∈a.map (·.key):=by rw[<-h.keys];exact Ey b
 obtain⟨c,d,e⟩:=lm.1 this;exact⟨c,d,e⟩
def xu.Gc {G:GM}{key:bS}{f:dh}{rest:List dh}{L:List aT}(h:xu G key f rest L):∃lo hi Ll Lr ps Lt pt Ld pd,qv G key f rest L lo hi Ll Lr ps Lt pt Ld pd:=by
 obtain⟨lo,hi,Ll,Lr,Lm,ps,q,j,i,⟨D,C,s,z⟩,g,d,y,w,b⟩:=h;obtain⟨m,l,k⟩:=sZ i.ok.sorted key;rw[<-b]at m l k;rw[<-CV f.at_ f.n.cells]at s;obtain⟨Lt,pt,Ld,pd,r,o,rfl,rfl⟩:=fE.append.1 s;obtain⟨u,s2⟩:=j.ahg;refine⟨lo,hi,Ll,Lr,ps,Lt,pt,Ld,pd,j,i,D,C,g,d,y,w,b,m,r,o,z,λx a=>?_,λx a=>?_,λx a=>(u x a).kI g,λx a=>WE d (s2 x a)⟩
 .obtain⟨c,hc,e⟩:=qN r a;rw[<-e];exact l c hc
 .obtain⟨c,hc,e⟩:=qN o a;rw[<-e];exact k c hc
section
variable {G:GM} {key:bS} {f:dh} {rest:List dh} {L:List aT} {lo:bS} {hi:Option bS} {Ll Lr:List aT} {ps:List Nat} {Lt:List aT} {pt:List Nat} {Ld:List aT} {pd:List Nat}
def qv.found (h:qv G key f rest L lo hi Ll Lr ps Lt pt Ld pd){c:dq}(q:f.n.cells[f.at_]?=some c)(j:c.key=key):∃w po d i,Cw G c w po/\fE G (f.n.cells.drop (f.at_+1)) d i/\Ld=(key,w)::d/\pd=po++i/\(∀x∈d,eI key x.1)/\ey L key=some w:=by
 obtain⟨l,k⟩:=qo.1 q;have m:=h.cd;rw[vT l,k]at m;obtain⟨w,po,d,i,a,b,rfl,rfl⟩:=m
 have s:∀x∈d,eI key x.1:=λx g=>by
  obtain⟨r,o,e⟩:=qN b g;have:=(wL h.node.ok.sorted l).2.2 r o;rw[k,j]at this;rw[<-e];exact this
 refine⟨w,po,d,i,a,b,by rw[j],rfl,s,?_⟩;rw[<-h.total];have e:Ll++((Lt++(c.key,w)::d)++Lr)=(Ll++Lt)++(key,w)::(d++Lr):=by rw[j];simp
 rw[e]
 exact Jh λx g=>by
  rcases lh.1 g with g|g
  .exact h.kl x g
  .exact h.kt x g
def qv.IJ (h:qv G key f rest L lo hi Ll Lr ps Lt pt Ld pd)(l:∀c,f.n.cells[f.at_]?=some c->c.key≠key):(∀x∈Ld,eI key x.1)/\ey L key=none/\mM L key=L:=by
 have k:∀x∈Ld,eI key x.1:=λx a=>by
  rcases qO.1 (h.kd x a)with h1|h1
  .exact h1
  .obtain⟨c',b,e⟩:=qN h.cd a
   have d:f.at_<f.n.cells.length:=by
    rcases wl f.at_ f.n.cells.length with h|h
    .exact h
    .rw[ys h]at b;cases b
   rw[vT d]at b;rcases ip.1 b with e2|b
   .exact absurd (by rw[<-e2,e,h1]) (l _ (li d))
   .have a1:=(wL h.node.ok.sorted d).2.2 c' b;rw[e,<-h1]at a1
    have m:lO key f.n.cells[f.at_].key:=by
     obtain⟨_,_,j⟩:=sZ h.node.ok.sorted key;rw[<-h.at_]at j;exact j _ (by rw[vT d];exact zt)
    exact absurd a1 m
 have e:L=(Ll++Lt)++(Ld++Lr):=by rw[<-h.total];simp
 have i:∀x∈Ll++Lt,eI x.1 key:=λx a=>by
  rcases lh.1 a with a|a
  .exact h.kl x a
  .exact h.kt x a
 have g:∀x∈Ld++Lr,eI key x.1:=λx a=>by
  rcases lh.1 a with a|a
  .exact k x a
  .exact h.kr x a
 rw[e];exact⟨k,TG i g,Ui i g⟩
def fH (l:List dq):bp:=⟨true,l,[]⟩
def Eg {j:GM}(h:qv G key f rest L lo hi Ll Lr ps Lt pt Ld pd)(W:wb j)(IT:j.root=G.root){cm:List dq}{Lm:List aT}{pm:List Nat}{k:Nat}{s:List aT}{po i:List Nat}(y:fE G (f.n.cells.drop (f.at_+k)) s i)(NK:pd=po++i)
 (u:∀F,(∀x∈F,G.bV x/\x∉po)->Kept G j F) (z:fE j cm Lm pm) (q:∀c∈cm,c.key=key/\c.ok true) (Dk:cm.length<=1) (w:pm.Nodup) (N:∀x∈pm,¬(G.bV x/\x∉po)) (Ex:∀x∈s,eI key x.1) (lR:j.bT+pm.length=G.bT+po.length) (M:j.aO=G.aO):
 DC j 0 f.page rest (fH (f.n.cells.take f.at_++(cm++f.n.cells.drop (f.at_+k)))) (Ll++((Lt++(Lm++s))++Lr)):=by
 subst NK;have H:=h.nd.nd
 have m:∀x∈pt++(i++(f.page::ps)),G.bV x/\x∉po:=λx hx=>by
  have r:=H;simp only[me,lh,rt,zy]at r;obtain⟨⟨⟨n1,S,n3⟩,n4⟩,⟨n5,⟨n6,n7,Q⟩,P⟩,Po,LI⟩:=r;simp only[lh,ip]at hx;rcases hx with hx|hx|rfl|hx
  .exact⟨h.cl.aO x hx,λh=>P x hx x (.inl h) rfl⟩
  .exact⟨y.aO x hx,λh=>Q x h x hx rfl⟩
  .exact⟨h.node.bV,S⟩
  .exact⟨h.ctx.aO x hx,λh=>LI x (.inr (.inl h)) x hx rfl⟩
 have I:∀c∈f.n.cells,c.ok true:=by have:=h.node.ok.cell;rw[h.leaf]at this;exact this
 obtain⟨Y,C,X⟩:=sZ h.node.ok.sorted key;rw[<-h.at_]at Y C X
 have o:∀c∈f.n.cells.drop (f.at_+k),eI key c.key:=λc hc=>by
  have:c.key∈(f.n.cells.drop (f.at_+k)).map (·.key):=Ey hc;rw[<-y.keys]at this;obtain⟨x,hx,e⟩:=lm.1 this;rw[<-e];exact Ex x hx
 have Dn:key.length<=48\/cm=[]:=by
  cases cm with
  |nil=>exact .inr rfl
  |cons c cm=>left;obtain⟨a,b⟩:=q c V;rw[<-a];exact b.key
 refine⟨W,(u [f.page] (λx hx=>m x afM) f.page V).1 h.node.bV,⟨λc hc=>?_,?_,rfl,by simp[fH]⟩,lo,hi,Ll,Lr,_,ps,pt++(pm++i),Ctx.kept (G:=G) IT h.ctx (u ps λx hx=>m x Hs),⟨rfl,h.lt,?_,λc hc=>?_⟩,?_,rfl⟩
 .rcases lh.1 hc with hc|hc
  .exact I c (ww hc)
  .rcases lh.1 hc with hc|hc
   .exact(q c hc).2
   .exact I c (zR hc)
 .show(f.n.cells.take f.at_++(cm++f.n.cells.drop (f.at_+k))).Pairwise _
  have D:cm.Pairwise λa b=>eI a.key b.key:=by
   cases cm with
   |nil=>simp
   |cons c cm=>cases cm with
    |nil=>simp
    |cons d cm=>simp at Dk
  refine Zu.2 ⟨sI h.node.ok.sorted _,Zu.2 ⟨D,sJ h.node.ok.sorted _,λa l b g=>by rw[(q a l).1];exact o b g⟩,λa l b g=>?_⟩;rcases lh.1 g with g|g
  .rw[(q b g).1];exact C a l
  .exact gu (C a l) (o b g)
 .exact fE.append.2 ⟨Lt,pt,_,_,h.cl.kept (u pt λx hx=>m x Hs),fE.append.2 ⟨Lm,pm,s,i,z,y.kept (u i λx hx=>m x Hs),rfl,rfl⟩,rfl,rfl⟩
 .have hc:=hc;rcases lh.1 hc with hc|hc
  .exact h.Dz c (ww hc)
  .rcases lh.1 hc with hc|hc
   .rw[(q c hc).1];exact⟨h.klo,h.khi⟩
   .exact h.Dz c (zR hc)
 .have r:(f.page::((pt++i)++ps)).Nodup:=by
   refine List.Sublist.nodup ?_ H;refine List.Sublist.cons_cons _ (List.Sublist.append (List.Sublist.append (List.Sublist.refl _) (List.sublist_append_right _ _)) (List.Sublist.refl _))
  have T:(f.page::((pt++(pm++i))++ps)).Perm (pm++(f.page::((pt++i)++ps))):=by
   refine(ê.2 λx=>?_);simp only[ä,â];omega
  refine h.nd.to (T.nodup_iff.2 (zy.2 ⟨w,r,λa l b g e=>N a l (m a ?_)⟩)) (by simp only[lx,km];omega) M;subst e;simp only[ip,lh]at g⊢;rcases g with h|(h|h)|h<;>simp[h]
end
end
