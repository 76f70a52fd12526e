import Derived.Test.YtomffjeofpafnaaGreatDoorLimG
namespace Lim
open Go
noncomputable section
abbrev cc:=List UInt8
def eC (a b:cc):Prop:=Op.bytesLess a b=true
instance (a b:cc):Decidable (eC a b):=by unfold eC;infer_instance
def jY (a b:cc):Prop:=¬eC b a
instance (a b:cc):Decidable (jY a b):=by unfold jY;infer_instance
theorem rj (a b:UInt8)(x y:cc):eC (a::x) (b::y)↔a<b\/(a=b/\eC x y):=by
 unfold eC;simp[Op.bytesLess]
theorem je (a:cc):¬eC a []:=by unfold eC;cases a<;>simp[Op.bytesLess]
theorem Cv (a:UInt8)(x:cc):eC [] (a::x):=by unfold eC;simp[Op.bytesLess]
theorem gq (a:cc):¬eC a a:=by
 induction a with
 |nil=>exact je _
 |cons a x ih=>rw[rj];rintro(h|⟨_,h⟩);exact absurd h (UInt8.lt_irrefl a);exact ih h
theorem ko {a b c:cc}(h:eC a b)(k:eC b c):eC a c:=by
 induction a generalizing b c with
 |nil=>cases c with
  |nil=>exact absurd k (je _)
  |cons c z=>exact Cv _ _
 |cons a x ih=>
  cases b with
  |nil=>exact absurd h (je _)
  |cons b y=>
   cases c with
   |nil=>exact absurd k (je _)
   |cons c z=>
    rw[rj]at*;rcases h with h|⟨rfl,h⟩<;>rcases k with k|⟨rfl,k⟩
    ·exact .inl (UInt8.lt_trans h k)
    ·exact .inl h
    ·exact .inl k
    ·exact .inr ⟨rfl,ih h k⟩
theorem Kn (a b:cc):eC a b\/a=b\/eC b a:=by
 induction a generalizing b with
 |nil=>cases b with
  |nil=>exact .inr (.inl rfl)
  |cons b y=>exact .inl (Cv _ _)
 |cons a x ih=>
  cases b with
  |nil=>exact .inr (.inr (Cv _ _))
  |cons b y=>
   rw[rj,rj];rcases Nat.lt_trichotomy a.toNat b.toNat with h|h|h
   ·exact .inl (.inl (UInt8.lt_iff_toNat_lt.2 h))
   ·have e:=UInt8.toNat_inj.1 h;subst e;rcases ih y with h|rfl|h
    ·exact .inl (.inr ⟨rfl,h⟩)
    ·exact .inr (.inl rfl)
    ·exact .inr (.inr (.inr ⟨rfl,h⟩))
   ·exact .inr (.inr (.inl (UInt8.lt_iff_toNat_lt.2 h)))
theorem kq {a b:cc}(h:eC a b):¬eC b a:=fun k=>gq _ (ko h k)
theorem yF (a:cc):jY a a:=gq a
theorem eC.le {a b:cc}(h:eC a b):jY a b:=kq h
theorem pX {a b:cc}:jY a b↔eC a b\/a=b:=by
 constructor
 ·intro h;rcases Kn a b with h1|h1|h1;exact .inl h1;exact .inr h1;exact absurd h1 h
 ·rintro(h|rfl);exact h.le;exact yF _
theorem jY.qO {a b c:cc}(h:jY a b)(k:eC b c):eC a c:=by
 rcases pX.1 h with h|rfl;exact ko h k;exact k
theorem eC.jO {a b c:cc}(h:eC a b)(k:jY b c):eC a c:=by
 rcases pX.1 k with k|rfl;exact ko h k;exact h
theorem jY.trans {a b c:cc}(h:jY a b)(k:jY b c):jY a c:=by
 rcases pX.1 k with k|rfl;exact(h.qO k).le;exact h
theorem A6 (a b:cc):jY a b\/eC b a:=by by_cases h:eC b a;exact .inr h;exact .inl h
theorem QW (a:cc):jY [] a:=je a
theorem eC.ne {a b:cc}(h:eC a b):a≠b:=fun e=>by subst e;exact gq _ h
theorem CD {a b:cc}(h:jY a b)(k:jY b a):a=b:=by
 rcases pX.1 h with h|h;exact absurd h k;exact h
theorem IT (a b:cc):Op.bytesLess a b=decide (eC a b):=by
 by_cases h:eC a b
 ·rw[aAJ h];exact h
 ·rw[aAB h];simpa[eC]using h
theorem VG (a b:cc):(Op.bytesLess a b||(a==b))=decide (jY a b):=by
 rw[IT,aDg];simp[pX]
theorem XN (a b:cc):(!(Op.bytesLess a b))=decide (jY b a):=by rw[aDg];simp[jY,eC]
@[simp] theorem yo (a b:cc)(st:St):qY .lss a b st= .ok (.bool (decide (eC a b))) st:=by rw[<-IT];rfl
@[simp] theorem MM (a b:cc)(st:St):qY .leq a b st= .ok (.bool (decide (jY a b))) st:=by rw[<-VG];rfl
@[simp] theorem qW (a b:cc)(st:St):qY .geq a b st= .ok (.bool (decide (jY b a))) st:=by rw[<-XN];rfl
@[simp] theorem qX (a b:cc)(st:St):qY .eql a b st= .ok (.bool (decide (a=b))) st:=by
  have:(a==b)=decide (a=b):=by rw[aDg];simp
  rw[<-this];rfl
@[simp] theorem kQ (a b:cc)(st:St):qY .neq a b st= .ok (.bool (!decide (a=b))) st:=by
  have:(a==b)=decide (a=b):=by rw[aDg];simp
  rw[<-this];rfl
structure dh where
 key:cc
 value:List UInt8
 dL:Nat
 size:Nat
deriving DecidableEq
structure bg where
 leaf:Bool
 cells:List dh
 kids:List Nat
deriving DecidableEq
def hU (leaf:Bool)(c:dh):List UInt8:=
 uv c.key.length++(c.key++(if leaf=true then (if c.dL=0 then uv 0++(uv c.value.length++c.value)else uv c.dL++uv c.size)else []))
def cK (leaf:Bool)(l:List dh):List UInt8:=(l.map (hU leaf)).flatten
def eK (l:List Nat):List UInt8:=(l.map uv).flatten
def ma (n:bg):List UInt8:=uv (if n.leaf=true then 1 else 0)++(uv n.cells.length++(cK n.leaf n.cells++(if n.leaf=true then []else eK n.kids)))
def bg.size (n:bg):Nat:=(ma n).length
abbrev pT:Nat:=2147483647
structure dh.ok (leaf:Bool)(c:dh):Prop where
 key:c.key.length<=48
 inner:leaf=false->c.value=[]/\c.dL=0/\c.size=0
 short:leaf=true->c.dL=0->c.size=0/\c.value.length<=64
 far:leaf=true->c.dL≠0->c.value=[]/\c.dL<=pT/\1<=c.size/\c.size<=pT
def iu (l:List dh):Prop:=l.Pairwise fun a b=>eC a.key b.key
structure bg.ok (n:bg):Prop where
 cell:∀c∈n.cells,c.ok n.leaf
 sorted:iu n.cells
 jf:n.kids.length=if n.leaf=true then 0 else n.cells.length+1
 A8:∀k∈n.kids,k<=pT
theorem xP (n:Nat):1<=(uv n).length:=by by_cases hu:127<n;rw[ir hu];simp;rw[iX (by omega)];simp
theorem eI {n:Nat}(h:n<=127):(uv n).length=1:=by rw[iX h];rfl
theorem pE {n:Nat}(h:n<=16383):(uv n).length<=2:=by
 by_cases hu:127<n
 ·rw[ir hu,aBb,eI (by omega)];omega
 ·rw[eI (by omega)];omega
theorem uB {m n:Nat}(h:m<=n):(uv m).length<=(uv n).length:=by
 induction n using Nat.strongRecOn generalizing m with
 |_ n ih=>
  by_cases hm:127<m
  ·have hn:127<n:=by omega
   rw[ir hm,ir hn,aBb,aBb];have:= @ih (n/128) (by omega) (m/128) (Nat.div_le_div_right h);omega
  ·rw[eI (by omega)];exact xP n
theorem iI {leaf:Bool}{c:dh}(h:c.ok leaf):1<=(hU leaf c).length/\(hU leaf c).length<=115/\(leaf=false->(hU leaf c).length<=49):=by
 have h1:(uv c.key.length).length=1:=eI (by have:=h.key;omega);have h2:=h.key;cases leaf with
 |false=>unfold hU;simp;omega
 |true=>
  unfold hU
  by_cases h0:c.dL=0
  ·obtain⟨h3,h4⟩:=h.short rfl h0;have h5:(uv c.value.length).length=1:=eI (by omega);have h6:(uv 0).length=1:=eI (by omega);simp[h0];omega
  ·obtain⟨h3,h4,h5,h6⟩:=h.far rfl h0;have h7:=(jE c.dL h4).2;have h8:=(jE c.size h6).2;simp[h0];omega
theorem eh (leaf:Bool)(a b:List dh):cK leaf (a++b)=cK leaf a++cK leaf b:=by simp[cK]
theorem fo (leaf:Bool)(c:dh)(b:List dh):cK leaf (c::b)=hU leaf c++cK leaf b:=by simp[cK]
theorem ix (a b:List Nat):eK (a++b)=eK a++eK b:=by simp[eK]
theorem nz (k:Nat)(b:List Nat):eK (k::b)=uv k++eK b:=by simp[eK]
theorem eR (leaf:Bool)(l:List dh):l.length<=(cK leaf l).length:=by
 induction l with
 |nil=>simp
 |cons c l ih=>
  rw[fo,aAG,aBb];have:=xP c.key.length;have:1<=(hU leaf c).length:=by unfold hU;rw[aAG];omega
  omega
theorem bX (n:bg):n.size=1+((uv n.cells.length).length+((cK n.leaf n.cells).length+(if n.leaf=true then 0 else (eK n.kids).length))):=by
 unfold bg.size ma;have:(uv (if n.leaf=true then 1 else 0)).length=1:=eI (by split<;>omega);rw[aAG,aAG,aAG,this]
 split<;>simp
def bg.find (n:bg)(key:cc):Nat:=n.cells.findIdx fun c=>decide (jY key c.key)
def cC (n:bg)(i:Nat):bg×cc×bg:=
 if n.leaf=true then (⟨true,n.cells.take i,[]⟩,(n.cells[i]?.map (·.key)).getD [],⟨true,n.cells.drop i,[]⟩)
 else (⟨false,n.cells.take i,n.kids.take (i+1)⟩,(n.cells[i]?.map (·.key)).getD [],⟨false,n.cells.drop (i+1),n.kids.drop (i+1)⟩)
def gz (n:bg)(i:Nat):Nat:=((cC n i).1.size-(cC n i).2.2.size)+((cC n i).2.2.size-(cC n i).1.size)
def rI (n:bg):Nat->Nat->Nat->Nat
 |0,_,b=>b
 |f+1,i,b=>rI n f (i+1) (if gz n i<gz n b then i else b)
def cq (n:bg):Nat:=if n.leaf=true then 1 else 0
def gT (n:bg):Nat:=rI n (n.cells.length-(cq n+1)) (cq n+1) (cq n)
def wo (n:bg):bg×cc×bg:=cC n (gT n)
def fK (k:cc):dh:=⟨k,[],0,0⟩
def dy (a:bg)(sep:cc)(b:bg):bg:=if a.leaf=true then ⟨true,a.cells++b.cells,[]⟩else ⟨false,a.cells++(fK sep::b.cells),a.kids++b.kids⟩
theorem Ig (n:bg)(f:Nat):∀(i b:Nat),b<i->(rI n f i b=b\/(i<=rI n f i b/\rI n f i b<i+f))/\gz n (rI n f i b)<=gz n b/\∀j,i<=j->j<i+f->gz n (rI n f i b)<=gz n j:=by
 induction f with
 |zero=>intro i b hb;exact⟨.inl rfl,aAE _,fun j h1 h2=>by omega⟩
 |succ f ih=>
  intro i b hb;simp only[rI];obtain⟨h1,h2,h3⟩:=ih (i+1) (if gz n i<gz n b then i else b) (by split<;>omega);generalize hr:rI n f (i+1) (if gz n i<gz n b then i else b)=r at*
  by_cases hc:gz n i<gz n b
  ·rw[aAI hc]at h1 h2;refine⟨.inr (by omega),by omega,fun j h4 h5=> ?_⟩;rcases aCR h4 with rfl|h6
   ·exact h2
   ·exact h3 j h6 (by omega)
  ·rw[aAH hc]at h1 h2;refine⟨by omega,h2,fun j h4 h5=> ?_⟩;rcases aCR h4 with rfl|h6
   ·omega
   ·exact h3 j h6 (by omega)
theorem xf (n:bg)(h:cq n<n.cells.length):cq n<=gT n/\gT n<n.cells.length/\∀j,cq n<=j->j<n.cells.length->gz n (gT n)<=gz n j:=by
 obtain⟨h1,h2,h3⟩:=Ig n (n.cells.length-(cq n+1)) (cq n+1) (cq n) (Nat.lt_succ_self _);unfold gT;refine⟨by omega,by omega,fun j h4 h5=> ?_⟩;rcases aCR h4 with rfl|h6
 ·exact h2
 ·exact h3 j h6 (by omega)
theorem mZ {leaf:Bool}{l:List dh}(h:∀c∈l,c.ok leaf):(cK leaf l).length<=l.length*115:=by
 induction l with
 |nil=>simp[cK]
 |cons c l ih=>
  rw[fo,aAG,aBb];have:=(iI (h c (by simp))).2.1;have:=ih fun c hc=>h c (by simp[hc]);omega
theorem oZ {l:List Nat}(h:∀k∈l,k<=pT):(eK l).length<=l.length*5:=by
 induction l with
 |nil=>simp[eK]
 |cons k l ih=>
  rw[nz,aAG,aBb];have:=(jE k (h k (by simp))).2;have:=ih fun c hc=>h c (by simp[hc]);omega
theorem xR {α:Type}(l:List α)(i:Nat)(h:i<l.length):l.take (i+1)=l.take i++[l[i]]:=aAR h
theorem vp {α:Type}(l:List α)(i:Nat)(h:i<l.length):l.drop i=l[i]::l.drop (i+1):=aAS h
structure Gc (n:bg):Prop where
 up:∀i,cq n<=i->i+1<n.cells.length->(cC n (i+1)).1.size<=(cC n i).1.size+116
 down:∀i,cq n<=i->i+1<n.cells.length->(cC n i).2.2.size<=(cC n (i+1)).2.2.size+116
 sum:∀i,cq n<=i->i<n.cells.length->n.size<=(cC n i).1.size+(cC n i).2.2.size+49/\(cC n i).1.size+(cC n i).2.2.size<=n.size+4
 head:cq n<n.cells.length->(cC n (cq n)).1.size<=if n.leaf=true then 117 else 7
 last:∀i,cq n<=i->i+1=n.cells.length->(cC n i).2.2.size<=if n.leaf=true then 117 else 7
theorem OW {n:bg}(h:n.ok)(hs:n.cells.length<=16000):Gc n:=by
 obtain⟨leaf,cells,kids⟩:=n;have hc:=h.cell;have hk:=h.jf;have TE:=h.A8;simp only at hc hk TE hs;have u2:∀i,i<=16383->1<=(uv i).length/\(uv i).length<=2:=fun i hi=>⟨xP i,pE hi⟩;cases leaf with
 |true=>
  have e1:∀i,(cC ⟨true,cells,kids⟩ i).1=⟨true,cells.take i,[]⟩:=fun i=>rfl;have e2:∀i,(cC ⟨true,cells,kids⟩ i).2.2=⟨true,cells.drop i,[]⟩:=fun i=>rfl;have hf:cq ⟨true,cells,kids⟩=1:=rfl
  have V8:∀i,(cK true (cells.take i)).length+(cK true (cells.drop i)).length=(cK true cells).length:=fun i=>by
   rw[<-aAG,<-eh,aBm]
  refine⟨fun i h1 h2=> ?_,fun i h1 h2=> ?_,fun i h1 h2=> ?_,fun h1=> ?_,fun i h1 h2=> ?_⟩
  ·simp only at h2;rw[e1,e1,bX,bX];simp only[aAY,aAN];rw[xR cells i (by omega),eh,aAG];have h3:=(iI (hc _ (aAW (show i<cells.length by omega)))).2.1;have h4:(cK true [cells[i]'(by omega)]).length=(hU true (cells[i]'(by omega))).length:=by simp[cK]
   have:=u2 (min (i+1) cells.length) (by omega);have:=u2 (min i cells.length) (by omega);omega
  ·simp only at h2;rw[e2,e2,bX,bX];simp only[aAY,aAX];rw[vp cells i (by omega),fo,aAG];have h3:=(iI (hc _ (aAW (show i<cells.length by omega)))).2.1;have:=u2 (cells.length-(i+1)) (by omega);have:=u2 (cells.length-i) (by omega);omega
  ·simp only at h2;rw[e1,e2,bX,bX,bX];simp only[aAY,aAX,aAN];have:=V8 i;have:=u2 (min i cells.length) (by omega);have:=u2 (cells.length-i) (by omega);have:=u2 cells.length (by omega);omega
  ·simp only[hf]at h1;rw[hf,e1,bX];simp only[aAY,aAN];have h5:(cells.take 1).length=1:=by rw[aAN];omega
   have h3:=mZ (leaf:=true) (l:=cells.take 1) fun c h=>hc c (aBp h);rw[h5]at h3;have:(uv (min 1 cells.length)).length=1:=eI (by omega);omega
  ·simp only[hf]at h1;simp only at h2;rw[e2,bX];simp only[aAY,aAX];have h5:(cells.drop i).length=1:=by rw[aAX];omega
   have h3:=mZ (leaf:=true) (l:=cells.drop i) fun c h=>hc c (aBv h);rw[h5]at h3;have:(uv (cells.length-i)).length=1:=eI (by omega);omega
 |false=>
  simp only[aAz,aAO]at hk;have e1:∀i,(cC ⟨false,cells,kids⟩ i).1=⟨false,cells.take i,kids.take (i+1)⟩:=fun i=>rfl;have e2:∀i,(cC ⟨false,cells,kids⟩ i).2.2=⟨false,cells.drop (i+1),kids.drop (i+1)⟩:=fun i=>rfl;have hf:cq ⟨false,cells,kids⟩=0:=rfl
  have V8:∀i (h:i<cells.length),(cK false (cells.take i)).length+((hU false cells[i]).length+(cK false (cells.drop (i+1))).length)=(cK false cells).length:=fun i h=>by
   rw[<-aAG,<-fo,<-vp cells i h,<-aAG,<-eh,aBm]
  have abV:∀i,(eK (kids.take i)).length+(eK (kids.drop i)).length=(eK kids).length:=fun i=>by
   rw[<-aAG,<-ix,aBm]
  have c49:∀i (h:i<cells.length),1<=(hU false cells[i]).length/\(hU false cells[i]).length<=49:=fun i h=>by
   have:=iI (hc _ (aAW h));exact⟨this.1,this.2.2 rfl⟩
  refine⟨fun i h1 h2=> ?_,fun i h1 h2=> ?_,fun i h1 h2=> ?_,fun h1=> ?_,fun i h1 h2=> ?_⟩
  ·simp only at h2;rw[e1,e1,bX,bX];simp only[aAz,aAO,aAN];rw[xR cells i (by omega),eh,aAG,xR kids (i+1) (by omega),ix,aAG];have h3:=c49 i (by omega);have h4:(cK false [cells[i]'(by omega)]).length=(hU false (cells[i]'(by omega))).length:=by simp[cK]
   have h6:(eK [kids[i+1]'(by omega)]).length=(uv (kids[i+1]'(by omega))).length:=by simp[eK]
   have h7:=(jE _ (TE _ (aAW (show i+1<kids.length by omega)))).2;have:=u2 (min (i+1) cells.length) (by omega);have:=u2 (min i cells.length) (by omega);omega
  ·simp only at h2;rw[e2,e2,bX,bX];simp only[aAz,aAO,aAX];rw[vp cells (i+1) (by omega),fo,aAG,vp kids (i+1) (by omega),nz,aAG];have h3:=c49 (i+1) (by omega);have h7:=(jE _ (TE _ (aAW (show i+1<kids.length by omega)))).2;have:=u2 (cells.length-(i+1+1)) (by omega);have:=u2 (cells.length-(i+1)) (by omega);omega
  ·simp only at h2;rw[e1,e2,bX,bX,bX];simp only[aAz,aAO,aAX,aAN];have:=V8 i h2;have:=abV (i+1);have:=c49 i h2;have:=u2 (min i cells.length) (by omega);have:=u2 (cells.length-(i+1)) (by omega);have:=u2 cells.length (by omega);omega
  ·rw[hf,e1,bX];simp only[aAz,aAO,aAN];have h3:=oZ (l:=kids.take (0+1)) fun c h=>TE c (aBp h);have h5:(kids.take (0+1)).length=1:=by rw[aAN];omega
   rw[h5]at h3;have:(uv 0).length=1:=eI (by omega);simp only[aAF]at h3;simp[cK];omega
  ·simp only at h2;rw[e2,bX];simp only[aAz,aAO,aAX];have h3:=oZ (l:=kids.drop (i+1)) fun c h=>TE c (aBv h);have h5:(kids.drop (i+1)).length=1:=by rw[aAX];omega
   rw[h5]at h3;have:(uv (cells.length-(i+1))).length=1:=eI (by omega);have:cells.drop (i+1)=[]:=aBj (by omega);rw[this];simp[cK];omega
theorem OV {n:bg}(h:Gc n)(hf:cq n<n.cells.length)(h1:513<=n.size):∃j,cq n<=j/\j<n.cells.length/\gz n j<=232:=by
 have key:∀k,cq n+k<n.cells.length->(cC n (cq n+k)).1.size<=(cC n (cq n+k)).2.2.size\/∃j,cq n<=j/\j<n.cells.length/\gz n j<=232:=by
  intro k
  induction k with
  |zero=>
   intro hk;have:=h.head hf;have:(if n.leaf=true then 117 else 7)<=117:=by split<;>omega
   have:=(h.sum (cq n) (aAE _) hf).1;left;simp only[aBl];omega
  |succ k ih=>
   intro hk;rcases ih (by omega)with h2|h2
   ·by_cases h3:(cC n (cq n+(k+1))).1.size<=(cC n (cq n+(k+1))).2.2.size
    ·exact .inl h3
    ·right;refine⟨cq n+(k+1),by omega,hk, ?_⟩;have a1:=h.up (cq n+k) (by omega) (by omega);have a2:=h.down (cq n+k) (by omega) (by omega);have e:cq n+(k+1)=cq n+k+1:=by omega
     rw[e]at h3⊢;unfold gz;omega
   ·exact .inr h2
 rcases key (n.cells.length-1-cq n) (by omega)with h2|h2
 ·have e:cq n+(n.cells.length-1-cq n)=n.cells.length-1:=by omega
  rw[e]at h2;have:=h.last (n.cells.length-1) (by omega) (by omega);have:(if n.leaf=true then 117 else 7)<=117:=by split<;>omega
  have:=(h.sum (n.cells.length-1) (by omega) (by omega)).1;omega
 ·exact h2
theorem pG {l:List dh}(h:iu l)(i:Nat):iu (l.take i):=h.sublist (List.take_sublist _ _)
theorem pH {l:List dh}(h:iu l)(i:Nat):iu (l.drop i):=h.sublist (List.drop_sublist _ _)
structure zF (n a b:bg)(i:Nat)(s:cc):Prop where
 lt:i<n.cells.length
 Vw:a.ok
 okB:b.ok
 ZR:a.size<=512
 szB:b.size<=512
 Yz:a.cells≠[]
 neB:b.cells≠[]
 key:s=(n.cells[i]'lt).key
 eqs:(n.leaf=true/\a=⟨true,n.cells.take i,[]⟩/\b=⟨true,n.cells.drop i,[]⟩)\/(n.leaf=false/\a=⟨false,n.cells.take i,n.kids.take (i+1)⟩/\b=⟨false,n.cells.drop (i+1),n.kids.drop (i+1)⟩)
theorem OU {n:bg}(h:n.ok)(h1:512<n.size)(h2:n.size<=760):∃i,i=gT n/\zF n (wo n).1 (wo n).2.2 i (wo n).2.1:=by
 have hlen:n.cells.length<=760:=by
  have:=eR n.leaf n.cells;rw[bX]at h2;omega
 have hF:=OW h (by omega)
 have CR:cq n<n.cells.length:=by
  have a1:=mZ (leaf:=n.leaf) (l:=n.cells) h.cell;have a2:=oZ (l:=n.kids) h.A8;have a3:=h.jf;have:(uv n.cells.length).length<=2:=pE (by omega);rw[bX]at h1;unfold cq;cases hl:n.leaf with
  |true=>rw[hl]at h1 a1;simp only[aAY]at h1⊢;omega
  |false=>rw[hl]at h1 a1 a3;simp only[aAz,aAO]at h1 a3⊢;omega
 obtain⟨b1,b2,b3⟩:=xf n CR;obtain⟨j,j1,j2,j3⟩:=OV hF CR (by omega);have hb:=b3 j j1 j2;obtain⟨s1,s2⟩:=hF.sum (gT n) b1 b2;have hu:(cC n (gT n)).1.size<=(cC n (gT n)).2.2.size+232/\(cC n (gT n)).2.2.size<=(cC n (gT n)).1.size+232:=by unfold gz at hb j3;omega
 have akz:cq n<gT n\/n.leaf=true:=by
  rcases aCR b1 with e|e
  ·have:=hF.head CR;rw[<-e]at hu s1 s2;cases hl:n.leaf with
   |true=>exact .inr rfl
   |false=>rw[hl,aAH (by decide)]at this;omega
  ·exact .inl e
 have Rx:gT n+1<n.cells.length\/n.leaf=true:=by
  rcases aCR (show gT n+1<=n.cells.length from b2)with e|e
  ·have:=hF.last (gT n) b1 e;cases hl:n.leaf with
   |true=>exact .inr rfl
   |false=>rw[hl,aAH (by decide)]at this;omega
  ·exact .inl e
 refine⟨gT n,rfl, ?_⟩;unfold wo;generalize gT n=i at*;obtain⟨leaf,cells,kids⟩:=n;cases leaf with
 |true=>
  have E9:1<=i:=b1;simp only at b2;refine⟨b2,⟨fun c hc=>h.cell c (aBp hc),pG h.sorted _,rfl,fun k hk=>by simp[cC]at hk⟩,⟨fun c hc=>h.cell c (aBv hc),pH h.sorted _,rfl,fun k hk=>by simp[cC]at hk⟩,by omega,by omega, ?_, ?_, ?_, .inl ⟨rfl,rfl,rfl⟩⟩
  ·intro e;have:=congrArg List.length e;simp only[cC,aAY,aAz,aAO,aAN,aAX,aCb]at this;omega
  ·intro e;have:=congrArg List.length e;simp only[cC,aAY,aAz,aAO,aAN,aAX,aCb]at this;omega
  ·simp[cC,aAC b2]
 |false=>
  have E9:cq ⟨false,cells,kids⟩<i:=by rcases akz with h|h;exact h;cases h
  have E9:0<i:=E9;have wY:i+1<cells.length:=by rcases Rx with h|h;exact h;cases h
  have hk:kids.length=cells.length+1:=h.jf;refine⟨b2,⟨fun c hc=>h.cell c (aBp hc),pG h.sorted _, ?_,fun k hk=>h.A8 k (aBp hk)⟩,⟨fun c hc=>h.cell c (aBv hc),pH h.sorted _, ?_,fun k hk=>h.A8 k (aBv hk)⟩,by omega,by omega, ?_, ?_, ?_, .inr ⟨rfl,rfl,rfl⟩⟩
  ·simp[cC];omega
  ·simp[cC];omega
  ·intro e;have:=congrArg List.length e;simp only[cC,aAY,aAz,aAO,aAN,aAX,aCb]at this;omega
  ·intro e;have:=congrArg List.length e;simp only[cC,aAY,aAz,aAO,aAN,aAX,aCb]at this;omega
  ·simp[cC,aAC b2]
inductive PC where
 |node (n:bg)
 |dL (next:Nat) (data:List UInt8)
 |blank
structure GM where
 aE:Nat
 used:Nat
 root:Nat
 fr:List Nat
 cont:Nat->PC
def GM.bP (G:GM)(n:Nat):Prop:=0<n/\n<G.used/\n∉G.fr
structure um (G:GM):Prop where
 one:1<=G.used
 jv:G.used<=G.aE
 size:G.aE<=65536
 nd:G.fr.Nodup
 fr:∀n∈G.fr,0<n/\n<G.used
def GM.cJ (G:GM):Nat:=G.aE-G.used+G.fr.length
def GM.put (G:GM)(n:Nat)(x:PC):GM:={G with cont:=fun q=>if q=n then x else G.cont q}
def GM.dS (G:GM):Nat:=match G.fr with|[]=>G.used|n::_=>n
def GM.alloc (G:GM):GM:=match G.fr with
 |[]=>{G with used:=G.used+1,cont:=fun q=>if q=G.used then .blank else G.cont q}
 |n::r=>{G with fr:=r,cont:=fun q=>if q=n then .blank else G.cont q}
def GM.drop (G:GM)(n:Nat):GM:={G with fr:=n::G.fr}
def GM.gJ (G:GM)(n:Nat):GM:={G with root:=n}
theorem yj (G:GM)(n:Nat)(x:PC)(q:Nat):(G.put n x).cont q=if q=n then x else G.cont q:=rfl
theorem l5 (G:GM)(n:Nat)(x:PC):(G.put n x).cont n=x:=by simp[yj]
theorem Ha (G:GM)(n:Nat)(x:PC)(q:Nat)(h:q≠n):(G.put n x).cont q=G.cont q:=by simp[yj,h]
@[simp] theorem yh (G:GM)(n:Nat)(x:PC):(G.put n x).cJ=G.cJ:=rfl
theorem um.put {G:GM}(h:um G)(n:Nat)(x:PC):um (G.put n x):=⟨h.one,h.jv,h.size,h.nd,h.fr⟩
theorem um.gJ {G:GM}(h:um G)(n:Nat):um (G.gJ n):=⟨h.one,h.jv,h.size,h.nd,h.fr⟩
structure JG (G:GM):Prop where
 ok:um G.alloc
 not:¬G.bP G.dS
 bP:∀q,G.alloc.bP q↔G.bP q\/q=G.dS
 cont:∀q,q≠G.dS->G.alloc.cont q=G.cont q
 root:G.alloc.root=G.root
 free:G.alloc.cJ+1=G.cJ
 aE:G.alloc.aE=G.aE
 pos:0<G.dS
theorem sM {G:GM}(h:um G)(hf:0<G.cJ):JG G:=by
 cases iE:G.fr with
 |nil=>
  have e1:G.alloc={G with used:=G.used+1,cont:=fun q=>if q=G.used then .blank else G.cont q}:=by unfold GM.alloc;rw[iE]
  have e2:G.dS=G.used:=by unfold GM.dS;rw[iE]
  have h1:=h.one;unfold GM.cJ at hf;rw[iE]at hf;simp at hf;refine⟨?_, ?_, ?_, ?_, ?_, ?_, ?_, ?_⟩
  ·rw[e1];exact⟨by simp,by show G.used+1<=G.aE;omega,h.size,h.nd,fun n hn=>by have:=h.fr n hn;show _/\n<G.used+1;omega⟩
  ·rw[e2];intro⟨_,h2,_⟩;omega
  ·intro q;rw[e1,e2];unfold GM.bP;simp only[iE];simp;omega
  ·intro q hq;rw[e1];rw[e2]at hq;simp[hq]
  ·rw[e1]
  ·rw[e1];unfold GM.cJ;simp[iE];omega
  ·rw[e1]
  ·rw[e2];omega
 |cons n r=>
  have e1:G.alloc={G with fr:=r,cont:=fun q=>if q=n then .blank else G.cont q}:=by unfold GM.alloc;rw[iE]
  have e2:G.dS=n:=by unfold GM.dS;rw[iE]
  have iQ:=h.nd;rw[iE,aAQ]at iQ;have hn:=h.fr n (by rw[iE];simp);refine⟨?_, ?_, ?_, ?_, ?_, ?_, ?_, ?_⟩
  ·rw[e1];exact⟨h.one,h.jv,h.size,iQ.2,fun m hm=>h.fr m (by rw[iE];simp[show m∈r from hm])⟩
  ·rw[e2];intro⟨_,_,h2⟩;rw[iE]at h2;simp at h2
  ·intro q;rw[e1,e2];unfold GM.bP;simp only[iE,aAD,aBY];constructor
   ·rintro⟨a,b,c⟩
    by_cases hq:q=n
    ·exact .inr hq
    ·exact .inl ⟨a,b,hq,c⟩
   ·rintro(⟨a,b,_,c⟩|rfl)
    ·exact⟨a,b,c⟩
    ·exact⟨hn.1,hn.2,iQ.1⟩
  ·intro q hq;rw[e1];rw[e2]at hq;simp[hq]
  ·rw[e1]
  ·rw[e1];unfold GM.cJ;simp[iE];omega
  ·rw[e1]
  ·rw[e2];exact hn.1
structure SE (G:GM)(n:Nat):Prop where
 ok:um (G.drop n)
 bP:∀q,(G.drop n).bP q↔G.bP q/\q≠n
 free:(G.drop n).cJ=G.cJ+1
theorem sE {G:GM}(h:um G){n:Nat}(hn:G.bP n):SE G n:=by
 refine⟨⟨h.one,h.jv,h.size, ?_, ?_⟩, ?_, ?_⟩
 ·exact aAQ.2 ⟨hn.2.2,h.nd⟩
 ·intro q hq;rcases aAD.1 hq with rfl|hq
  ·exact⟨hn.1,hn.2.1⟩
  ·exact h.fr q hq
 ·intro q;show(0<q/\q<G.used/\q∉n::G.fr)↔_;unfold GM.bP;simp only[aAD,aBY];constructor
  ·rintro⟨a,b,c,d⟩;exact⟨⟨a,b,d⟩,c⟩
  ·rintro⟨⟨a,b,d⟩,c⟩;exact⟨a,b,c,d⟩
 ·show G.aE-G.used+(n::G.fr).length=_;unfold GM.cJ;simp;omega
abbrev bA:=cc×List UInt8
def ov (G:GM):List Nat->Nat->List UInt8->Prop
 |[],page,v=>page=0/\v=[]
 |p::ps,page,v=>page=p/\v≠[]/\G.bP p/\∃next,G.cont p= .dL next (v.take 480)/\next<=pT/\ov G ps next (v.drop 480)
def Bx (G:GM)(c:dh)(v:List UInt8)(ps:List Nat):Prop:=
 (c.dL=0/\v=c.value/\ps=[])\/(c.dL≠0/\c.size=v.length/\64<v.length/\v.length<=8192/\ov G ps c.dL v)
def eS (G:GM):List dh->List bA->List Nat->Prop
 |[],L,ps=>L=[]/\ps=[]
 |c::cs,L,ps=>∃v p1 L2 p2,Bx G c v p1/\eS G cs L2 p2/\L=(c.key,v)::L2/\ps=p1++p2
abbrev rL:=Nat->cc->Option cc->List bA->List Nat->Prop
def bW (S:rL):List Nat->List cc->cc->Option cc->List bA->List Nat->Prop
 |[k],[],lo,hi,L,ps=>S k lo hi L ps
 |k::ks,s::ss,lo,hi,L,ps=>∃L1 p1 L2 p2,S k lo (some s) L1 p1/\bW S ks ss s hi L2 p2/\L=L1++L2/\ps=p1++p2
 |_,_,_,_,_,_=>False
def A3 (k:cc)(hi:Option cc):Prop:=match hi with|none=>True|some h=>eC k h
def bg.eW (n:bg):List cc:=n.cells.map (·.key)
def EF (G:GM)(n:bg)(lo:cc)(hi:Option cc)(L:List bA)(ps:List Nat):Prop:=n.leaf=true/\A3 lo hi/\eS G n.cells L ps/\∀c∈n.cells,jY lo c.key/\A3 c.key hi
def Nk (S:rL)(n:bg)(lo:cc)(hi:Option cc)(L:List bA)(ps:List Nat):Prop:=n.leaf=false/\bW S n.kids n.eW lo hi L ps
structure mL (G:GM)(page:Nat)(n:bg):Prop where
 bP:G.bP page
 cont:G.cont page= .node n
 ok:n.ok
 size:n.size<=512
 full:n.leaf=true\/n.cells≠[]
def AtP (G:GM)(C:bg->cc->Option cc->List bA->List Nat->Prop):rL:=fun page lo hi L ps=>∃n q,mL G page n/\C n lo hi L q/\ps=page::q
def uu (G:GM):Nat->bg->cc->Option cc->List bA->List Nat->Prop
 |0=>EF G
 |h+1=>Nk (AtP G (uu G h))
def Sub (G:GM)(h:Nat):rL:=AtP G (uu G h)
theorem oX {a b:cc}{hi:Option cc}(h:eC a b)(k:A3 b hi):A3 a hi:=by cases hi with|none=>trivial|some c=>exact ko h k
section
variable {S S':rL}
theorem bW.mono {ks:List Nat}{ss:List cc}{lo:cc}{hi:Option cc}{L:List bA}{ps:List Nat}(h:bW S ks ss lo hi L ps)(hs:∀k lo hi L q,(∀x∈q,x∈ps)->S k lo hi L q->S' k lo hi L q):bW S' ks ss lo hi L ps:=by
 induction ks generalizing ss lo L ps with
 |nil=>cases ss<;>exact h.elim
 |cons k ks ih=>
  cases ss with
  |nil=>cases ks with
   |nil=>exact hs _ _ _ _ _ (fun x hx=>hx) h
   |cons k2 ks=>exact h.elim
  |cons s ss=>
   obtain⟨L1,p1,L2,p2,h1,h2,rfl,rfl⟩:∃L1 p1 L2 p2,S k lo (some s) L1 p1/\bW S ks ss s hi L2 p2/\L=L1++L2/\ps=p1++p2:=by cases ks<;>exact h
   have:∃L1' p1' L2' p2',S' k lo (some s) L1' p1'/\bW S' ks ss s hi L2' p2'/\L1++L2=L1'++L2'/\p1++p2=p1'++p2':=
    ⟨L1,p1,L2,p2,hs _ _ _ _ _ (fun x hx=>by simp[hx]) h1,ih h2 fun k lo hi L q hq=>hs k lo hi L q fun x hx=>by simp[hq x hx],rfl,rfl⟩
   cases ks<;>exact this
theorem bW.cons {k:Nat}{ks:List Nat}{s:cc}{ss:List cc}{lo:cc}{hi:Option cc}{L:List bA}{ps:List Nat}:bW S (k::ks) (s::ss) lo hi L ps↔∃L1 p1 L2 p2,S k lo (some s) L1 p1/\bW S ks ss s hi L2 p2/\L=L1++L2/\ps=p1++p2:=by cases ks<;>exact Iff.rfl
theorem bW.one {k:Nat}{ks:List Nat}{lo:cc}{hi:Option cc}{L:List bA}{ps:List Nat}:bW S (k::ks) [] lo hi L ps↔ks=[]/\S k lo hi L ps:=by
 cases ks with
 |nil=>simp[bW]
 |cons k2 ks=>simp[bW]
theorem bW.len {ks:List Nat}{ss:List cc}{lo:cc}{hi:Option cc}{L:List bA}{ps:List Nat}(h:bW S ks ss lo hi L ps):ks.length=ss.length+1:=by
 induction ks generalizing ss lo L ps with
 |nil=>cases ss<;>exact h.elim
 |cons k ks ih=>
  cases ss with
  |nil=>rw[bW.one]at h;rw[h.1];rfl
  |cons s ss=>rw[bW.cons]at h;obtain⟨_,_,_,_,_,h2,_,_⟩:=h;simp[ih h2]
def zE (S:rL):List Nat->List cc->cc->cc->List bA->List Nat->Prop
 |[],[],lo,jW,L,ps=>lo=jW/\L=[]/\ps=[]
 |k::ks,s::ss,lo,jW,L,ps=>∃L1 p1 L2 p2,S k lo (some s) L1 p1/\zE S ks ss s jW L2 p2/\L=L1++L2/\ps=p1++p2
 |_,_,_,_,_,_=>False
def LO (S:rL):List Nat->List cc->Option cc->Option cc->List bA->List Nat->Prop
 |[],[],jW,hi,L,ps=>jW=hi/\L=[]/\ps=[]
 |k::ks,s::ss,jW,hi,L,ps=>jW=some s/\bW S (k::ks) ss s hi L ps
 |_,_,_,_,_,_=>False
theorem bW.split {k1 k2:List Nat}{s1 s2:List cc}{lo:cc}{hi:Option cc}{L:List bA}{ps:List Nat}(he:k1.length=s1.length):bW S (k1++k2) (s1++s2) lo hi L ps↔∃jW L1 p1 L2 p2,zE S k1 s1 lo jW L1 p1/\bW S k2 s2 jW hi L2 p2/\L=L1++L2/\ps=p1++p2:=by
 induction k1 generalizing s1 lo L ps with
 |nil=>
  cases s1 with
  |nil=>
   constructor
   ·intro h;exact⟨lo,[],[],L,ps,⟨rfl,rfl,rfl⟩,h,rfl,rfl⟩
   ·rintro⟨jW,L1,p1,L2,p2,⟨rfl,rfl,rfl⟩,h,rfl,rfl⟩;exact h
  |cons s s1=>cases he
 |cons k k1 ih=>
  cases s1 with
  |nil=>cases he
  |cons s s1=>
   have RQ:k1.length=s1.length:=by simpa using he
   rw[aBC,aBC,bW.cons];constructor
   ·rintro⟨L1,p1,L2,p2,h1,h2,rfl,rfl⟩;obtain⟨jW,L3,p3,L4,p4,h3,h4,rfl,rfl⟩:=(ih RQ).1 h2;exact⟨jW,L1++L3,p1++p3,L4,p4,⟨L1,p1,L3,p3,h1,h3,rfl,rfl⟩,h4,by simp,by simp⟩
   ·rintro⟨jW,_,_,L4,p4,⟨L1,p1,L3,p3,h1,h3,rfl,rfl⟩,h4,rfl,rfl⟩;exact⟨L1,p1,L3++L4,p3++p4,h1,(ih RQ).2 ⟨jW,L3,p3,L4,p4,h3,h4,rfl,rfl⟩,by simp,by simp⟩
theorem bW.focus {k:Nat}{k2:List Nat}{s2:List cc}{lo:cc}{hi:Option cc}{L:List bA}{ps:List Nat}:bW S (k::k2) s2 lo hi L ps↔∃jW L1 p1 L2 p2,S k lo jW L1 p1/\LO S k2 s2 jW hi L2 p2/\L=L1++L2/\ps=p1++p2:=by
 cases s2 with
 |nil=>
  rw[bW.one];constructor
  ·rintro⟨rfl,h⟩;exact⟨hi,L,ps,[],[],h,⟨rfl,rfl,rfl⟩,by simp,by simp⟩
  ·rintro⟨jW,L1,p1,L2,p2,h1,h2,rfl,rfl⟩;cases k2 with
   |nil=>obtain⟨rfl,rfl,rfl⟩:=h2;exact⟨rfl,by simpa using h1⟩
   |cons k3 k2=>exact h2.elim
 |cons s s2=>
  rw[bW.cons];constructor
  ·rintro⟨L1,p1,L2,p2,h1,h2,rfl,rfl⟩;cases k2 with
   |nil=>exact absurd h2.len (by simp)
   |cons k3 k2=>exact⟨some s,L1,p1,L2,p2,h1,⟨rfl,h2⟩,rfl,rfl⟩
  ·rintro⟨jW,L1,p1,L2,p2,h1,h2,rfl,rfl⟩;cases k2 with
   |nil=>exact h2.elim
   |cons k3 k2=>obtain⟨rfl,h3⟩:=h2;exact⟨L1,p1,L2,p2,h1,h3,rfl,rfl⟩
theorem zE.snoc {ks:List Nat}{ss:List cc}{s lo jW:cc}{L:List bA}{ps:List Nat}:zE S ks (ss++[s]) lo jW L ps↔jW=s/\bW S ks ss lo (some s) L ps:=by
 induction ks generalizing ss lo L ps with
 |nil=>
  constructor
  ·intro h;cases ss<;>exact h.elim
  ·rintro⟨_,h⟩;cases ss<;>exact h.elim
 |cons k ks ih=>
  cases ss with
  |nil=>
   rw[bW.one];constructor
   ·rintro⟨L1,p1,L2,p2,h1,h2,rfl,rfl⟩;cases ks with
    |nil=>obtain⟨rfl,rfl,rfl⟩:=h2;exact⟨rfl,rfl,by simpa using h1⟩
    |cons k2 ks=>exact h2.elim
   ·rintro⟨rfl,rfl,h⟩;exact⟨L,ps,[],[],h,⟨rfl,rfl,rfl⟩,by simp,by simp⟩
  |cons s2 ss=>
   rw[aBC,bW.cons];constructor
   ·rintro⟨L1,p1,L2,p2,h1,h2,rfl,rfl⟩;obtain⟨rfl,h3⟩:=ih.1 h2;exact⟨rfl,L1,p1,L2,p2,h1,h3,rfl,rfl⟩
   ·rintro⟨rfl,L1,p1,L2,p2,h1,h2,rfl,rfl⟩;exact⟨L1,p1,L2,p2,h1,ih.2 ⟨rfl,h2⟩,rfl,rfl⟩
theorem zE.mono {ks:List Nat}{ss:List cc}{lo jW:cc}{L:List bA}{ps:List Nat}(h:zE S ks ss lo jW L ps)(hs:∀k lo hi L q,(∀x∈q,x∈ps)->S k lo hi L q->S' k lo hi L q):zE S' ks ss lo jW L ps:=by
 induction ks generalizing ss lo L ps with
 |nil=>cases ss<;>exact h
 |cons k ks ih=>
  cases ss with
  |nil=>exact h
  |cons s ss=>
   obtain⟨L1,p1,L2,p2,h1,h2,rfl,rfl⟩:=h;exact⟨L1,p1,L2,p2,hs _ _ _ _ _ (fun x hx=>by simp[hx]) h1,ih h2 fun k lo hi L q hq=>hs k lo hi L q fun x hx=>by simp[hq x hx],rfl,rfl⟩
theorem LO.mono {ks:List Nat}{ss:List cc}{jW hi:Option cc}{L:List bA}{ps:List Nat}(h:LO S ks ss jW hi L ps)(hs:∀k lo hi L q,(∀x∈q,x∈ps)->S k lo hi L q->S' k lo hi L q):LO S' ks ss jW hi L ps:=by
 cases ks with
 |nil=>cases ss<;>exact h
 |cons k ks=>
  cases ss with
  |nil=>exact h
  |cons s ss=>exact⟨h.1,h.2.mono hs⟩
theorem zE.len {ks:List Nat}{ss:List cc}{lo jW:cc}{L:List bA}{ps:List Nat}(h:zE S ks ss lo jW L ps):ks.length=ss.length:=by
 induction ks generalizing ss lo L ps with
 |nil=>cases ss with|nil=>rfl|cons s ss=>exact h.elim
 |cons k ks ih=>
  cases ss with
  |nil=>exact h.elim
  |cons s ss=>obtain⟨L1,p1,L2,p2,h1,h2,rfl,rfl⟩:=h;simp[ih h2]
theorem zE.append {k1 k2:List Nat}{s1 s2:List cc}{lo jW:cc}{L:List bA}{ps:List Nat}(he:k1.length=s1.length):zE S (k1++k2) (s1++s2) lo jW L ps↔∃m L1 p1 L2 p2,zE S k1 s1 lo m L1 p1/\zE S k2 s2 m jW L2 p2/\L=L1++L2/\ps=p1++p2:=by
 induction k1 generalizing s1 lo L ps with
 |nil=>
  cases s1 with
  |nil=>
   constructor
   ·intro h;exact⟨lo,[],[],L,ps,⟨rfl,rfl,rfl⟩,h,rfl,rfl⟩
   ·rintro⟨m,L1,p1,L2,p2,⟨rfl,rfl,rfl⟩,h,rfl,rfl⟩;exact h
  |cons s s1=>cases he
 |cons k k1 ih=>
  cases s1 with
  |nil=>cases he
  |cons s s1=>
   have RQ:k1.length=s1.length:=by simpa using he
   constructor
   ·rintro⟨L1,p1,L2,p2,h1,h2,rfl,rfl⟩;obtain⟨m,L3,p3,L4,p4,h3,h4,rfl,rfl⟩:=(ih RQ).1 h2;exact⟨m,L1++L3,p1++p3,L4,p4,⟨L1,p1,L3,p3,h1,h3,rfl,rfl⟩,h4,by simp,by simp⟩
   ·rintro⟨m,_,_,L4,p4,⟨L1,p1,L3,p3,h1,h3,rfl,rfl⟩,h4,rfl,rfl⟩;exact⟨L1,p1,L3++L4,p3++p4,h1,(ih RQ).2 ⟨m,L3,p3,L4,p4,h3,h4,rfl,rfl⟩,by simp,by simp⟩
end
def Kept (G G':GM)(ps:List Nat):Prop:=∀q∈ps,(G.bP q->G'.bP q)/\G'.cont q=G.cont q
theorem Kept.sub {G G':GM}{ps qs:List Nat}(h:Kept G G' ps)(hs:∀x∈qs,x∈ps):Kept G G' qs:=fun q hq=>h q (hs q hq)
theorem ov.kept {G G':GM}{ps:List Nat}{page:Nat}{v:List UInt8}(h:ov G ps page v)(k:Kept G G' ps):ov G' ps page v:=by
 induction ps generalizing page v with
 |nil=>exact h
 |cons p ps ih=>
  obtain⟨rfl,h1,h2,next,h3,h4,h5⟩:=h;obtain⟨k1,k2⟩:=k page (by simp);exact⟨rfl,h1,k1 h2,next,by rw[k2];exact h3,h4,ih h5 (k.sub (by simp_all))⟩
theorem eS.kept {G G':GM}{cs:List dh}{L:List bA}{ps:List Nat}(h:eS G cs L ps)(k:Kept G G' ps):eS G' cs L ps:=by
 induction cs generalizing L ps with
 |nil=>exact h
 |cons c cs ih=>
  obtain⟨v,p1,L2,p2,h1,h2,rfl,rfl⟩:=h;refine⟨v,p1,L2,p2, ?_,ih h2 (k.sub (by simp_all)),rfl,rfl⟩;rcases h1 with h1|⟨a,b,c,d,e⟩
  ·exact .inl h1
  ·exact .inr ⟨a,b,c,d,e.kept (k.sub (by simp_all))⟩
theorem mL.kept {G G':GM}{page:Nat}{n:bg}(h:mL G page n)(k:Kept G G' [page]):mL G' page n:=by
 obtain⟨k1,k2⟩:=k page (by simp);exact⟨k1 h.bP,by rw[k2];exact h.cont,h.ok,h.size,h.full⟩
theorem uu.kept {G G':GM}:∀{h:Nat} {n:bg} {lo:cc} {hi:Option cc} {L:List bA} {ps:List Nat},uu G h n lo hi L ps->Kept G G' ps->uu G' h n lo hi L ps:=by
 intro h
 induction h with
 |zero=>rintro n lo hi L ps ⟨h1,h2,h3,h4⟩ k;exact⟨h1,h2,h3.kept k,h4⟩
 |succ h ih=>
  rintro n lo hi L ps ⟨h1,h2⟩ k;refine⟨h1,h2.mono fun kk lo hi L q hq hS=> ?_⟩;obtain⟨m,q',a,b,rfl⟩:=hS;exact⟨m,q',a.kept (k.sub fun x hx=>hq x (by simp at hx;simp[hx])),ih b (k.sub fun x hx=>hq x (by simp[hx])),rfl⟩
theorem Sub.kept {G G':GM}{h page:Nat}{lo:cc}{hi:Option cc}{L:List bA}{ps:List Nat}(hs:Sub G h page lo hi L ps)(k:Kept G G' ps):Sub G' h page lo hi L ps:=by
 obtain⟨m,q',a,b,rfl⟩:=hs;exact⟨m,q',a.kept (k.sub fun x hx=>by simp at hx;simp[hx]),b.kept (k.sub fun x hx=>by simp[hx]),rfl⟩
def iP (L:List bA):Prop:=L.Pairwise fun a b=>eC a.1 b.1
structure Ay (lo:cc)(hi:Option cc)(L:List bA):Prop where
 lt:A3 lo hi
 VZ:∀x∈L,jY lo x.1/\A3 x.1 hi
 sorted:iP L
theorem xU {L1 L2:List bA}(h1:iP L1)(h2:iP L2)(h:∀x∈L1,∀y∈L2,eC x.1 y.1):iP (L1++L2):=aCD.2 ⟨h1,h2,h⟩
theorem bW.facts {S:rL}(hS:∀k lo hi L q,S k lo hi L q->Ay lo hi L){ks:List Nat}{ss:List cc}{lo:cc}{hi:Option cc}{L:List bA}{ps:List Nat}(h:bW S ks ss lo hi L ps):
 Ay lo hi L/\(∀s∈ss,eC lo s/\A3 s hi)/\ss.Pairwise eC:=by
 induction ks generalizing ss lo L ps with
 |nil=>cases ss<;>exact h.elim
 |cons k ks ih=>
  cases ss with
  |nil=>rw[bW.one]at h;exact⟨hS _ _ _ _ _ h.2,by simp,by simp⟩
  |cons s ss=>
   rw[bW.cons]at h;obtain⟨L1,p1,L2,p2,h1,h2,rfl,rfl⟩:=h;have f1:=hS _ _ _ _ _ h1;obtain⟨f2,f3,f4⟩:=ih h2;have hlt:eC lo s:=f1.lt;have Ns:A3 s hi:=f2.lt;refine⟨⟨oX hlt Ns,fun x hx=> ?_,xU f1.sorted f2.sorted fun x hx y hy=> ?_⟩,fun t ht=> ?_, ?_⟩
   ·rcases aAM.1 hx with hx|hx
    ·obtain⟨a,b⟩:=f1.VZ x hx;exact⟨a,oX b Ns⟩
    ·obtain⟨a,b⟩:=f2.VZ x hx;exact⟨(hlt.jO a).le,b⟩
   ·have a:eC x.1 s:=(f1.VZ x hx).2;exact a.jO (f2.VZ y hy).1
   ·rcases aAD.1 ht with rfl|ht
    ·exact⟨hlt,Ns⟩
    ·obtain⟨a,b⟩:=f3 t ht;exact⟨ko hlt a,b⟩
   ·exact aDf.2 ⟨fun t ht=>(f3 t ht).1,f4⟩
theorem zE.facts {S:rL}(hS:∀k lo hi L q,S k lo hi L q->Ay lo hi L){ks:List Nat}{ss:List cc}{lo jW:cc}{L:List bA}{ps:List Nat}(h:zE S ks ss lo jW L ps):
 jY lo jW/\(∀x∈L,eC x.1 jW):=by
 induction ks generalizing ss lo L ps with
 |nil=>cases ss with
  |nil=>obtain⟨rfl,rfl,rfl⟩:=h;exact⟨yF _,by simp⟩
  |cons s ss=>exact h.elim
 |cons k ks ih=>
  cases ss with
  |nil=>exact h.elim
  |cons s ss=>
   obtain⟨L1,p1,L2,p2,h1,h2,rfl,rfl⟩:=h;have f1:=hS _ _ _ _ _ h1;have hlt:eC lo s:=f1.lt;obtain⟨f2,f3⟩:=ih h2;refine⟨(hlt.jO f2).le,fun x hx=> ?_⟩;rcases aAM.1 hx with hx|hx
   ·have a:eC x.1 s:=(f1.VZ x hx).2;exact a.jO f2
   ·exact f3 x hx
def leh (jW:Option cc)(k:cc):Prop:=match jW with|none=>False|some m=>jY m k
theorem LO.facts {S:rL}(hS:∀k lo hi L q,S k lo hi L q->Ay lo hi L){ks:List Nat}{ss:List cc}{jW hi:Option cc}{L:List bA}{ps:List Nat}(h:LO S ks ss jW hi L ps):
 (∀x∈L,leh jW x.1)/\∀k,A3 k jW->A3 k hi:=by
 cases ks with
 |nil=>cases ss with
  |nil=>obtain⟨rfl,rfl,rfl⟩:=h;exact⟨by simp,fun k h=>h⟩
  |cons s ss=>exact h.elim
 |cons k ks=>
  cases ss with
  |nil=>exact h.elim
  |cons s ss=>
   obtain⟨rfl,h⟩:=h;obtain⟨f,_⟩:=h.facts hS;exact⟨fun x hx=>(f.VZ x hx).1,fun k hk=>oX hk f.lt⟩
theorem eS.keys {G:GM}{cs:List dh}{L:List bA}{ps:List Nat}(h:eS G cs L ps):L.map (·.1)=cs.map (·.key):=by
 induction cs generalizing L ps with
 |nil=>obtain⟨rfl,rfl⟩:=h;rfl
 |cons c cs ih=>obtain⟨v,p1,L2,p2,h1,h2,rfl,rfl⟩:=h;simp[ih h2]
theorem eS.len {G:GM}{cs:List dh}{L:List bA}{ps:List Nat}(h:eS G cs L ps):L.length=cs.length:=by simpa using congrArg List.length h.keys
theorem EF.facts {G:GM}{n:bg}{lo:cc}{hi:Option cc}{L:List bA}{ps:List Nat}(h:EF G n lo hi L ps)(hn:iu n.cells):Ay lo hi L:=by
 obtain⟨h1,h2,h3,h4⟩:=h;have hk:=h3.keys;refine⟨h2,fun x hx=> ?_, ?_⟩
 ·have:x.1∈n.cells.map (·.key):=by rw[<-hk];exact aBK hx
  obtain⟨c,hc,e⟩:=aBd.1 this;rw[<-e];exact h4 c hc
 ·have:(L.map (·.1)).Pairwise eC:=by rw[hk,aCG];exact hn
  rw[aCG]at this;exact this
theorem uu.facts {G:GM}:∀{h:Nat} {n:bg} {lo:cc} {hi:Option cc} {L:List bA} {ps:List Nat},uu G h n lo hi L ps->iu n.cells->Ay lo hi L:=by
 intro h
 induction h with
 |zero=>intro n lo hi L ps h1 hn;exact EF.facts h1 hn
 |succ h ih=>
  rintro n lo hi L ps ⟨_,h2⟩ hn;exact(h2.facts fun k lo hi L q hS=>by obtain⟨m,q',a,b,rfl⟩:=hS;exact ih b a.ok.sorted).1
theorem Sub.facts {G:GM}{h page:Nat}{lo:cc}{hi:Option cc}{L:List bA}{ps:List Nat}(hs:Sub G h page lo hi L ps):Ay lo hi L:=by
 obtain⟨m,q',a,b,rfl⟩:=hs;exact b.facts a.ok.sorted
theorem Sub.rA {G:GM}{h:Nat}:∀k lo hi L q,Sub G h k lo hi L q->Ay lo hi L:=fun _ _ _ _ _ hS=>hS.facts
theorem bW.aE {S:rL}{ks:List Nat}{ss:List cc}{lo:cc}{hi:Option cc}{L:List bA}{ps:List Nat}(h:bW S ks ss lo hi L ps)(P:Nat->Prop)(hS:∀k lo hi L q,S k lo hi L q->∀x∈q,P x):∀x∈ps,P x:=by
 induction ks generalizing ss lo L ps with
 |nil=>cases ss<;>exact h.elim
 |cons k ks ih=>
  cases ss with
  |nil=>rw[bW.one]at h;exact hS _ _ _ _ _ h.2
  |cons s ss=>
   rw[bW.cons]at h;obtain⟨L1,p1,L2,p2,h1,h2,rfl,rfl⟩:=h;intro x hx;rcases aAM.1 hx with hx|hx
   ·exact hS _ _ _ _ _ h1 x hx
   ·exact ih h2 x hx
theorem ov.aE {G:GM}{ps:List Nat}{page:Nat}{v:List UInt8}(h:ov G ps page v):∀x∈ps,G.bP x:=by
 induction ps generalizing page v with
 |nil=>simp
 |cons p ps ih=>
  obtain⟨rfl,h1,h2,next,h3,h4,h5⟩:=h;intro x hx;rcases aAD.1 hx with rfl|hx
  ·exact h2
  ·exact ih h5 x hx
theorem eS.aE {G:GM}{cs:List dh}{L:List bA}{ps:List Nat}(h:eS G cs L ps):∀x∈ps,G.bP x:=by
 induction cs generalizing L ps with
 |nil=>obtain⟨rfl,rfl⟩:=h;simp
 |cons c cs ih=>
  obtain⟨v,p1,L2,p2,h1,h2,rfl,rfl⟩:=h;intro x hx;rcases aAM.1 hx with hx|hx
  ·rcases h1 with⟨_,_,rfl⟩|⟨_,_,_,_,e⟩
   ·cases hx
   ·exact e.aE x hx
  ·exact ih h2 x hx
theorem uu.aE {G:GM}:∀{h:Nat} {n:bg} {lo:cc} {hi:Option cc} {L:List bA} {ps:List Nat},uu G h n lo hi L ps->∀x∈ps,G.bP x:=by
 intro h
 induction h with
 |zero=>rintro n lo hi L ps ⟨_,_,h3,_⟩;exact h3.aE
 |succ h ih=>
  rintro n lo hi L ps ⟨_,h2⟩;refine h2.aE _ fun k lo hi L q hS=> ?_;obtain⟨m,q',a,b,rfl⟩:=hS;intro x hx;rcases aAD.1 hx with rfl|hx
  ·exact a.bP
  ·exact ih b x hx
theorem Sub.aE {G:GM}{h page:Nat}{lo:cc}{hi:Option cc}{L:List bA}{ps:List Nat}(hs:Sub G h page lo hi L ps):∀x∈ps,G.bP x:=by
 obtain⟨m,q',a,b,rfl⟩:=hs;intro x hx;rcases aAD.1 hx with rfl|hx
 ·exact a.bP
 ·exact b.aE x hx
theorem bW.count {S:rL}{w:Nat}(hS:∀k lo hi L q,S k lo hi L q->w<=q.length){ks:List Nat}{ss:List cc}{lo:cc}{hi:Option cc}{L:List bA}{ps:List Nat}(h:bW S ks ss lo hi L ps):ks.length*w<=ps.length:=by
 induction ks generalizing ss lo L ps with
 |nil=>cases ss<;>exact h.elim
 |cons k ks ih=>
  cases ss with
  |nil=>rw[bW.one]at h;obtain⟨rfl,h⟩:=h;simpa using hS _ _ _ _ _ h
  |cons s ss=>
   rw[bW.cons]at h;obtain⟨L1,p1,L2,p2,h1,h2,rfl,rfl⟩:=h;have:=hS _ _ _ _ _ h1;have:=ih h2;rw[aBb,aAG,aBI];omega
theorem Sub.count {G:GM}:∀{h page:Nat} {lo:cc} {hi:Option cc} {L:List bA} {ps:List Nat},Sub G h page lo hi L ps->2^h<=ps.length:=by
 intro h
 induction h with
 |zero=>rintro page lo hi L ps ⟨m,q',a,b,rfl⟩;simp
 |succ h ih=>
  rintro page lo hi L ps ⟨m,q',a,⟨b1,b2⟩,rfl⟩;have h1:=b2.count (w:=2^h) fun k lo hi L q hS=>ih hS;have h2:=b2.len
  have h3:0<m.eW.length:=by
   rcases a.full with h|h
   ·rw[b1]at h;cases h
   ·unfold bg.eW;rw[aBJ];exact aCK.2 h
  have h4:2*2^h<=m.kids.length*2^h:=aBu _ (by omega);rw[aDj,aBb];omega
theorem kR:∀(n:Nat) (l:List Nat),l.Nodup->(∀x∈l,x<n)->l.length<=n:=by
 intro n
 induction n with
 |zero=>intro l _ h;cases l with|nil=>simp|cons a l=>exact absurd (h a (by simp)) (by omega)
 |succ n ih=>
  intro l hn h
  by_cases hm:n∈l
  ·have h1:=ih (l.erase n) (hn.erase n) fun x hx=>by
    obtain⟨a,b⟩:=hn.mem_erase_iff.1 hx;have:=h x b;omega
   rw[List.length_erase_of_mem hm]at h1;omega
  ·have:=ih l hn fun x hx=>by
    have:=h x hx;have:x≠n:=fun e=>hm (e▸hx);omega
   omega
theorem Ek {G:GM}{ps:List Nat}(hn:ps.Nodup)(hu:∀x∈ps,G.bP x)(h1:1<=G.used):ps.length+1<=G.used:=by
 have:=kR G.used (0::ps) (aAQ.2 ⟨fun h=>by have:=(hu 0 h).1;omega,hn⟩) fun x hx=>by
  rcases aAD.1 hx with rfl|hx
  ·omega
  ·exact(hu x hx).2.1
 simpa using this
theorem Sub.deep {G:GM}{h page:Nat}{lo:cc}{hi:Option cc}{L:List bA}{ps:List Nat}(hs:Sub G h page lo hi L ps)(hn:ps.Nodup)(hG:um G):h<=16:=by
 have h1:=hs.count;have h2:=Ek hn hs.aE hG.one;have h3:=hG.jv;have h4:=hG.size;rcases aBT 16 h with h5|h5
 ·have:2^17<=2^h:=Nat.pow_le_pow_right (by omega) h5;omega
 ·exact h5
structure cO where
 page:Nat
 at_:Nat
 n:bg
def Ctx (G:GM):Nat->List cO->Nat->cc->Option cc->List bA->List bA->List Nat->Prop
 |_,[],page,lo,hi,Ll,Lr,ps=>page=G.root/\lo=[]/\hi=none/\Ll=[]/\Lr=[]/\ps=[]
 |h,s::l,page,lo,hi,Ll,Lr,ps=>∃kF fv xK xJ nX La pa Lb pb,Ctx G (h+1) l s.page kF fv xK xJ nX/\mL G s.page s.n/\s.n.leaf=false/\s.n.kids[s.at_]?=some page/\
  zE (Sub G h) (s.n.kids.take s.at_) (s.n.eW.take s.at_) kF lo La pa/\LO (Sub G h) (s.n.kids.drop (s.at_+1)) (s.n.eW.drop s.at_) hi fv Lb pb/\Ll=xK++La/\Lr=Lb++xJ/\ps=s.page::(pa++(pb++nX))
theorem yG (kids:List Nat)(i:Nat)(page:Nat)(h:kids[i]?=some page):kids=kids.take i++page::kids.drop (i+1):=by
 obtain⟨hi,rfl⟩:=aAP.1 h
 conv=>lhs;rw[<-aBm i kids,aAS hi]
theorem Ctx.fill {G:GM}:∀{l:List cO} {h page:Nat} {lo:cc} {hi:Option cc} {Ll Lr:List bA} {ps:List Nat},Ctx G h l page lo hi Ll Lr ps->∀{L:List bA} {q:List Nat},Sub G h page lo hi L q->
 ∃nX,nX.Perm (q++ps)/\Sub G (h+l.length) G.root [] none (Ll++(L++Lr)) nX:=by
 intro l
 induction l with
 |nil=>
  rintro h page lo hi Ll Lr ps ⟨rfl,rfl,rfl,rfl,rfl,rfl⟩ L q hs;exact⟨q,by simp,by simpa using hs⟩
 |cons s l ih=>
  rintro h page lo hi Ll Lr ps ⟨kF,fv,xK,xJ,nX,La,pa,Lb,pb,h1,h2,h3,h4,h5,h6,rfl,rfl,rfl⟩ L q hs
  have hk:bW (Sub G h) s.n.kids s.n.eW kF fv (La++(L++Lb)) (pa++(q++pb)):=by
   rw[yG _ _ _ h4]
   conv=>arg 3;rw[<-aBm s.at_ s.n.eW]
   exact(bW.split h5.len).2 ⟨lo,La,pa,L++Lb,q++pb,h5,bW.focus.2 ⟨hi,L,q,Lb,pb,hs,h6,rfl,rfl⟩,rfl,rfl⟩
  obtain⟨ps2,e1,e2⟩:=ih h1 (L:=La++(L++Lb)) (q:=s.page::(pa++(q++pb))) ⟨s.n,_,h2,⟨h3,hk⟩,rfl⟩;refine⟨ps2,e1.trans ?_, ?_⟩
  ·refine(aCp.2 fun x=> ?_);simp only[aCy,aCL];omega
  ·have e:h+(s::l).length=h+1+l.length:=by simp;omega
   rw[e]
   simpa using e2
theorem Ctx.kept {G G':GM}(hr:G'.root=G.root):∀{l:List cO} {h page:Nat} {lo:cc} {hi:Option cc} {Ll Lr:List bA} {ps:List Nat},Ctx G h l page lo hi Ll Lr ps->Kept G G' ps->Ctx G' h l page lo hi Ll Lr ps:=by
 intro l
 induction l with
 |nil=>rintro h page lo hi Ll Lr ps ⟨h1,h2⟩ _;exact⟨by rw[hr];exact h1,h2⟩
 |cons s l ih=>
  rintro h page lo hi Ll Lr ps ⟨kF,fv,xK,xJ,nX,La,pa,Lb,pb,h1,h2,h3,h4,h5,h6,rfl,rfl,rfl⟩ k
  exact⟨kF,fv,xK,xJ,nX,La,pa,Lb,pb,ih h1 (k.sub (by simp_all)),h2.kept (k.sub (by simp_all)),h3,h4,h5.mono fun _ _ _ _ q hq hS=>hS.kept (k.sub fun x hx=>by simp[hq x hx]),
   h6.mono fun _ _ _ _ q hq hS=>hS.kept (k.sub fun x hx=>by simp[hq x hx]),rfl,rfl,rfl⟩
theorem Ctx.aE {G:GM}:∀{l:List cO} {h page:Nat} {lo:cc} {hi:Option cc} {Ll Lr:List bA} {ps:List Nat},Ctx G h l page lo hi Ll Lr ps->∀x∈ps,G.bP x:=by
 intro l
 induction l with
 |nil=>rintro h page lo hi Ll Lr ps ⟨_,_,_,_,_,rfl⟩;simp
 |cons s l ih=>
  rintro h page lo hi Ll Lr ps ⟨kF,fv,xK,xJ,nX,La,pa,Lb,pb,h1,h2,h3,h4,h5,h6,rfl,rfl,rfl⟩ x hx
  have hL:∀{ks:List Nat} {ss:List cc} {lo jW:cc} {L:List bA} {p:List Nat},zE (Sub G h) ks ss lo jW L p->∀x∈p,G.bP x:=by
   intro ks
   induction ks with
   |nil=>intro ss lo jW L p hh;cases ss with
    |nil=>obtain⟨_,_,rfl⟩:=hh;simp
    |cons s ss=>exact hh.elim
   |cons k ks ih2=>
    intro ss lo jW L p hh;cases ss with
    |nil=>exact hh.elim
    |cons s ss=>
     obtain⟨L1,p1,L2,p2,a,b,rfl,rfl⟩:=hh;intro x hx;rcases aAM.1 hx with hx|hx
     ·exact a.aE x hx
     ·exact ih2 b x hx
  have hR:∀{ks:List Nat} {ss:List cc} {jW hi:Option cc} {L:List bA} {p:List Nat},LO (Sub G h) ks ss jW hi L p->∀x∈p,G.bP x:=by
   intro ks ss jW hi L p hh;cases ks with
   |nil=>cases ss with
    |nil=>obtain⟨_,_,rfl⟩:=hh;simp
    |cons s ss=>exact hh.elim
   |cons k ks=>cases ss with
    |nil=>exact hh.elim
    |cons s ss=>exact hh.2.aE _ fun _ _ _ _ _ hS=>hS.aE
  simp only[aAD,aAM]at hx;rcases hx with rfl|hx|hx|hx
  ·exact h2.bP
  ·exact hL h5 x hx
  ·exact hR h6 x hx
  ·exact ih h1 x hx
theorem Ctx.Z1 {G:GM}:∀{l:List cO} {h page:Nat} {lo:cc} {hi:Option cc} {Ll Lr:List bA} {ps:List Nat},Ctx G h l page lo hi Ll Lr ps->(∀x∈Ll,eC x.1 lo)/\(∀x∈Lr,leh hi x.1):=by
 intro l
 induction l with
 |nil=>rintro h page lo hi Ll Lr ps ⟨_,_,_,rfl,rfl,_⟩;simp
 |cons s l ih=>
  rintro h page lo hi Ll Lr ps ⟨kF,fv,xK,xJ,nX,La,pa,Lb,pb,h1,h2,h3,h4,h5,h6,rfl,rfl,rfl⟩;obtain⟨i1,i2⟩:=ih h1;obtain⟨a1,a2⟩:=h5.facts Sub.rA;obtain⟨b1,b2⟩:=h6.facts Sub.rA;refine⟨fun x hx=> ?_,fun x hx=> ?_⟩
  ·rcases aAM.1 hx with hx|hx
   ·exact(i1 x hx).jO a1
   ·exact a2 x hx
  ·rcases aAM.1 hx with hx|hx
   ·exact b1 x hx
   ·have h:=i2 x hx;cases fv with
    |none=>exact h.elim
    |some m'=>
     cases hi with
     |none=>exact absurd (b2 (m'++[0]) trivial) (fun h=>by
      have:¬eC (m'++[0]) m':=by
       have:∀m:cc,¬eC (m++[0]) m:=fun m=>by
        induction m with
        |nil=>exact je _
        |cons a m ih=>rw[aBC,rj];rintro(h|⟨_,h⟩);exact UInt8.lt_irrefl a h;exact ih h
       exact this m'
      exact this h)
     |some m=>
      have hm:jY m m':=by
       rcases A6 m m' with h|h
       ·exact h
       ·have:=b2 m' h;exact absurd this (gq _)
      exact hm.trans h
theorem eS.append {G:GM}{c1 c2:List dh}{L:List bA}{ps:List Nat}:eS G (c1++c2) L ps↔∃L1 p1 L2 p2,eS G c1 L1 p1/\eS G c2 L2 p2/\L=L1++L2/\ps=p1++p2:=by
 induction c1 generalizing L ps with
 |nil=>
  constructor
  ·intro h;exact⟨[],[],L,ps,⟨rfl,rfl⟩,h,rfl,rfl⟩
  ·rintro⟨L1,p1,L2,p2,⟨rfl,rfl⟩,h,rfl,rfl⟩;exact h
 |cons c c1 ih=>
  constructor
  ·rintro⟨v,p1,L2,p2,h1,h2,rfl,rfl⟩;obtain⟨L3,p3,L4,p4,h3,h4,rfl,rfl⟩:=ih.1 h2;exact⟨(c.key,v)::L3,p1++p3,L4,p4,⟨v,p1,L3,p3,h1,h3,rfl,rfl⟩,h4,by simp,by simp⟩
  ·rintro⟨_,_,L4,p4,⟨v,p1,L3,p3,h1,h3,rfl,rfl⟩,h4,rfl,rfl⟩;exact⟨v,p1,L3++L4,p3++p4,h1,ih.2 ⟨L3,p3,L4,p4,h3,h4,rfl,rfl⟩,by simp,by simp⟩
theorem tM {l:List dh}(h:iu l){i:Nat}(hi:i<l.length):(∀c∈l.take i,eC c.key l[i].key)/\(∀c∈l.drop i,jY l[i].key c.key)/\∀c∈l.drop (i+1),eC l[i].key c.key:=by
 have e:l=l.take i++l[i]::l.drop (i+1):=by
  conv=>lhs;rw[<-aBm i l,aAS hi]
 have h2:(l.take i++l[i]::l.drop (i+1)).Pairwise fun a b=>eC a.key b.key:=by rw[<-e];exact h
 rw[aCD]at h2;obtain⟨_,h3,h4⟩:=h2;rw[aDf]at h3;refine⟨fun c hc=>h4 c hc _ aBF,fun c hc=> ?_,h3.1⟩;rw[aAS hi]at hc;rcases aAD.1 hc with rfl|hc
 ·exact yF _
 ·exact(h3.1 c hc).le
theorem jP (n:bg):n.eW.length=n.cells.length:=by unfold bg.eW;simp
theorem Mq (n:bg){i:Nat}(h:i<n.cells.length):n.eW[i]'(by rw[jP];exact h)=n.cells[i].key:=by unfold bg.eW;simp
theorem uu.cut {G:GM}{h:Nat}{n a b:bg}{lo s:cc}{hi:Option cc}{L:List bA}{q:List Nat}{i:Nat}(hc:uu G h n lo hi L q)(hn:n.ok)(H:zF n a b i s):
 ∃L1 q1 L2 q2,uu G h a lo (some s) L1 q1/\uu G h b s hi L2 q2/\L=L1++L2/\q=q1++q2:=by
 have hlt:=H.lt;obtain⟨g1,g2,g3⟩:=tM hn.sorted hlt;rw[<-H.key]at g1 g2 g3;cases h with
 |zero=>
  obtain⟨c1,c2,c3,c4⟩:=hc;rcases H.eqs with⟨hl,ha,hb⟩|⟨hl,_⟩
  ·rw[<-aBm i n.cells]at c3;obtain⟨L1,q1,L2,q2,d1,d2,rfl,rfl⟩:=eS.append.1 c3;have hs:=c4 _ (aAW hlt);rw[<-H.key]at hs;have gL:(n.cells.take i)≠[]:=by have:=H.Yz;rw[ha]at this;exact this
   obtain⟨c0,RX⟩:=List.exists_mem_of_ne_nil _ gL;have Du:eC lo s:=(c4 c0 (aBp RX)).1.qO (g1 c0 RX);refine⟨L1,q1,L2,q2, ?_, ?_,rfl,rfl⟩
   ·rw[ha];exact⟨rfl,Du,d1,fun c hc=>⟨(c4 c (aBp hc)).1,g1 c hc⟩⟩
   ·rw[hb];exact⟨rfl,hs.2,d2,fun c hc=>⟨g2 c hc,(c4 c (aBv hc)).2⟩⟩
  ·rw[c1]at hl;cases hl
 |succ h=>
  obtain⟨c1,c2⟩:=hc;rcases H.eqs with⟨hl,_⟩|⟨hl,ha,hb⟩
  ·rw[c1]at hl;cases hl
  ·have hk:=c2.len;rw[jP]at hk
   have e1:n.eW=(n.eW.take i++[s])++n.eW.drop (i+1):=by
    conv=>lhs;rw[<-aBm (i+1) n.eW,aAR (by rw[jP];exact hlt),Mq n hlt,<-H.key]
   rw[e1]at c2
   conv at c2=>arg 2;rw[<-aBm (i+1) n.kids]
   have hlen:(n.kids.take (i+1)).length=(n.eW.take i++[s]).length:=by simp[jP];omega
   obtain⟨jW,L1,q1,L2,q2,d1,d2,rfl,rfl⟩:=(bW.split hlen).1 c2;obtain⟨rfl,d3⟩:=zE.snoc.1 d1;refine⟨L1,q1,L2,q2, ?_, ?_,rfl,rfl⟩
   ·rw[ha];refine⟨rfl, ?_⟩;have e:bg.eW ⟨false,n.cells.take i,n.kids.take (i+1)⟩=n.eW.take i:=by unfold bg.eW;simp[aCk]
    rw[e];exact d3
   ·rw[hb];refine⟨rfl, ?_⟩;have e:bg.eW ⟨false,n.cells.drop (i+1),n.kids.drop (i+1)⟩=n.eW.drop (i+1):=by unfold bg.eW;simp[aBZ]
    rw[e];exact d2
theorem uu.leaf {G:GM}{h:Nat}{n:bg}{lo:cc}{hi:Option cc}{L:List bA}{q:List Nat}(hc:uu G h n lo hi L q):n.leaf=decide (h=0):=by
 cases h with
 |zero=>exact hc.1
 |succ h=>exact hc.1
theorem bW.join {S:rL}{k1 k2:List Nat}{s1 s2:List cc}{s lo:cc}{hi:Option cc}{L1 L2:List bA}{q1 q2:List Nat}(h1:bW S k1 s1 lo (some s) L1 q1)(h2:bW S k2 s2 s hi L2 q2):bW S (k1++k2) (s1++s::s2) lo hi (L1++L2) (q1++q2):=by
 have e:s1++s::s2=(s1++[s])++s2:=by simp
 rw[e];have:=zE.snoc.2 ⟨rfl,h1⟩;exact(bW.split this.len).2 ⟨s,L1,q1,L2,q2,this,h2,rfl,rfl⟩
theorem uu.join {G:GM}{h:Nat}{a b:bg}{lo s:cc}{hi:Option cc}{L1 L2:List bA}{q1 q2:List Nat}(ha:uu G h a lo (some s) L1 q1)(hb:uu G h b s hi L2 q2)(oa:a.ok)(ob:b.ok)(hs:s.length<=48):
 uu G h (dy a s b) lo hi (L1++L2) (q1++q2)/\(dy a s b).ok/\(dy a s b).size<=a.size+b.size+52:=by
 have hla:=ha.leaf;have LG:=hb.leaf;have fa:=ha.facts oa.sorted;have fb:=hb.facts ob.sorted
 have hus:(uv (a.cells.length+b.cells.length)).length<=(uv a.cells.length).length+(uv b.cells.length).length+1:=by
  have key:∀m n,m<=n->(uv (n+m)).length<=(uv n).length+1:=by
   intro m n hmn;have h1:(uv (n+m)).length<=(uv (2*n)).length:=uB (by omega)
   have h2:∀n,(uv (2*n)).length<=(uv n).length+1:=by
    intro n
    induction n using Nat.strongRecOn with
    |_ n ih=>
     by_cases hn:127<n
     ·rw[ir hn,ir (n:=2*n) (by omega),aBb,aBb];have h3:=ih (n/128) (by omega);have h4:(uv (2*n/128)).length<=(uv (2*(n/128)+1)).length:=uB (by omega)
      by_cases h5:n/128<=63
      ·have:(uv (2*(n/128)+1)).length=1:=eI (by omega);omega
      ·have h6:(uv (2*(n/128)+1)).length<=(uv (2*(n/128))).length:=by
        have h7:127<2*(n/128):=by omega
        rw[ir h7,ir (n:=2*(n/128)+1) (by omega),aBb,aBb];have:(2*(n/128)+1)/128=2*(n/128)/128:=by omega
        rw[this];exact aAE _
       omega
     ·have:(uv (2*n)).length<=2:=pE (by omega);rw[eI (n:=n) (by omega)];omega
   have:=h2 n;omega
  rcases Nat.le_total a.cells.length b.cells.length with h|h
  ·have:=key _ _ h;rw[aDr];omega
  ·have:=key _ _ h;omega
 cases h with
 |zero=>
  obtain⟨a1,a2,a3,a4⟩:=ha;obtain⟨b1,b2,b3,b4⟩:=hb;have ej:dy a s b=⟨true,a.cells++b.cells,[]⟩:=by unfold dy;rw[aAI a1]
  rw[ej];refine⟨⟨rfl,oX a2 b2,eS.append.2 ⟨L1,q1,L2,q2,a3,b3,rfl,rfl⟩,fun c hc=> ?_⟩,⟨fun c hc=> ?_, ?_,rfl,by simp⟩, ?_⟩
  ·rcases aAM.1 hc with hc|hc
   ·obtain⟨x,y⟩:=a4 c hc;exact⟨x,oX y b2⟩
   ·obtain⟨x,y⟩:=b4 c hc;have Sw:eC lo s:=a2;exact⟨(Sw.jO x).le,y⟩
  ·rcases aAM.1 hc with hc|hc
   ·have:=oa.cell c hc;rw[a1]at this;exact this
   ·have:=ob.cell c hc;rw[b1]at this;exact this
  ·refine aCD.2 ⟨oa.sorted,ob.sorted,fun x hx y hy=> ?_⟩;have h1:eC x.key s:=(a4 x hx).2;exact h1.jO (b4 y hy).1
  ·rw[bX,bX,bX,a1,b1];simp only[aAY,eh,aAG];omega
 |succ h=>
  obtain⟨a1,a2⟩:=ha;obtain⟨b1,b2⟩:=hb;have ej:dy a s b=⟨false,a.cells++(fK s::b.cells),a.kids++b.kids⟩:=by unfold dy;rw[aAH (by rw[a1];decide)]
  rw[ej];obtain⟨_,sa,_⟩:=a2.facts Sub.rA;obtain⟨_,sb,_⟩:=b2.facts Sub.rA;have okS:(fK s).ok false:=⟨hs,fun _=>⟨rfl,rfl,rfl⟩,fun h=>(by cases h),fun h=>(by cases h)⟩;have px:=oa.jf;have kH:=ob.jf;rw[a1,aAH (by decide)]at px;rw[b1,aAH (by decide)]at kH;refine⟨⟨rfl, ?_⟩,⟨fun c hc=> ?_, ?_, ?_,fun k hk=> ?_⟩, ?_⟩
  ·have e:bg.eW ⟨false,a.cells++(fK s::b.cells),a.kids++b.kids⟩=a.eW++s::b.eW:=by unfold bg.eW;simp[fK]
   rw[e];exact a2.join b2
  ·rcases aAM.1 hc with hc|hc
   ·have:=oa.cell c hc;rw[a1]at this;exact this
   ·rcases aAD.1 hc with rfl|hc
    ·exact okS
    ·have:=ob.cell c hc;rw[b1]at this;exact this
  ·have zM:∀x∈a.cells,eC x.key s:=fun x hx=>(sa x.key (aBK hx)).2;have hsb:∀x∈b.cells,eC s x.key:=fun x hx=>(sb x.key (aBK hx)).1;refine aCD.2 ⟨oa.sorted,aDf.2 ⟨fun y hy=>hsb y hy,ob.sorted⟩,fun x hx y hy=> ?_⟩;rcases aAD.1 hy with rfl|hy
   ·exact zM x hx
   ·exact ko (zM x hx) (hsb y hy)
  ·simp;omega
  ·rcases aAM.1 hk with hk|hk
   ·exact oa.A8 k hk
   ·exact ob.A8 k hk
  ·rw[bX,bX,bX,a1,b1];have h49:=(iI okS).2.2 rfl;have e:(a.cells++fK s::b.cells).length=a.cells.length+b.cells.length+1:=by simp;omega
   have h1:(uv (a.cells.length+b.cells.length+1)).length<=(uv (a.cells.length+b.cells.length)).length+1:=by
    generalize a.cells.length+b.cells.length=m
    induction m using Nat.strongRecOn with
    |_ n ih=>
     by_cases hn:127<n
     ·rw[ir hn,ir (n:=n+1) (by omega),aBb,aBb];have h3:=ih (n/128) (by omega);have h4:(uv ((n+1)/128)).length<=(uv (n/128+1)).length:=uB (by omega);omega
     ·have:(uv (n+1)).length<=2:=pE (by omega);rw[eI (n:=n) (by omega)];omega
   simp only[aAz,aAO,eh,fo,ix,aAG,e];omega
theorem bW.Om {S:rL}{km k2:List Nat}{sm s2:List cc}{lo:cc}{jW hi:Option cc}{Lm Lb:List bA}{pm pb:List Nat}(h1:bW S km sm lo jW Lm pm)(h2:LO S k2 s2 jW hi Lb pb):bW S (km++k2) (sm++s2) lo hi (Lm++Lb) (pm++pb):=by
 induction km generalizing sm lo Lm pm with
 |nil=>cases sm<;>exact h1.elim
 |cons k km ih=>
  cases sm with
  |nil=>
   rw[bW.one]at h1;obtain⟨rfl,h1⟩:=h1;exact bW.focus.2 ⟨jW,Lm,pm,Lb,pb,h1,h2,rfl,rfl⟩
  |cons s sm=>
   rw[bW.cons]at h1;obtain⟨L1,p1,L2,p2,a,b,rfl,rfl⟩:=h1;rw[aBC,aBC,bW.cons];exact⟨L1,p1,L2++Lb,p2++pb,a,ih b,by simp,by simp⟩
structure ic (G:GM)(L:List bA):Prop where
 ok:um G
 tree:(G.root=0/\L=[])\/∃h ps,ps.Nodup/\Sub G h G.root [] none L ps
theorem kV {G:GM}{page:Nat}{x:PC}{ps:List Nat}(h:page∉ps):Kept G (G.put page x) ps:=fun q hq=>⟨fun h=>h,Ha _ _ _ _ fun e=>h (e▸hq)⟩
theorem Ctx.write {G:GM}{l:List cO}{h page:Nat}{lo:cc}{hi:Option cc}{Ll Lr L:List bA}{ps q:List Nat}{n:bg}(hc:Ctx G h l page lo hi Ll Lr ps)(hG:um G)(hu:G.bP page)(hn:n.ok)(hs:n.size<=512)(hf:n.leaf=true\/n.cells≠[])
 (kI:uu G h n lo hi L q) (iQ:(page::(q++ps)).Nodup):ic (G.put page (.node n)) (Ll++(L++Lr)):=by
 rw[aAQ]at iQ;have hp:page∉q/\page∉ps:=by simpa using iQ.1
 obtain⟨nX,e1,e2⟩:=(Ctx.kept (G:=G) (G':=G.put page (.node n)) rfl hc (kV hp.2)).fill (L:=L) (q:=page::q) ⟨n,q,⟨hu,l5 _ _ _,hn,hs,hf⟩,kI.kept (kV hp.1),rfl⟩;exact⟨hG.put _ _, .inr ⟨_,nX,e1.nodup_iff.2 (aAQ.2 iQ),e2⟩⟩
def iD (n:bg)(key:cc):Nat:=n.cells.findIdx fun c=>decide (eC key c.key)
theorem rz {l:List dh}(h:iu l)(p:cc->Bool)(hp:∀a b,eC a b->p a=true->p b=true):(∀c∈l.take (l.findIdx fun c=>p c.key),p c.key=false)/\∀c∈l.drop (l.findIdx fun c=>p c.key),p c.key=true:=by
 induction l with
 |nil=>simp
 |cons a l ih=>
  unfold iu at h;rw[aDf]at h;obtain⟨i1,i2⟩:=ih h.2;rw[List.findIdx_cons];cases YU:p a.key with
  |true=>
   simp only[cond_true,aCr,aBg];refine⟨by simp,fun c hc=> ?_⟩;rcases aAD.1 hc with rfl|hc
   ·exact YU
   ·exact hp _ _ (h.1 c hc) YU
  |false=>
   simp only[cond_false,aCx,List.drop_succ_cons];refine⟨fun c hc=> ?_,i2⟩;rcases aAD.1 hc with rfl|hc
   ·exact YU
   ·exact i1 c hc
theorem qc {n:bg}(h:iu n.cells)(key:cc):n.find key<=n.cells.length/\(∀c∈n.cells.take (n.find key),eC c.key key)/\∀c∈n.cells.drop (n.find key),jY key c.key:=by
 obtain⟨h1,h2⟩:=rz h (fun k=>decide (jY key k)) fun a b vj ha=>by
  simp only[aBR]at*;exact(ha.qO vj).le
 refine⟨aCM,fun c hc=> ?_,fun c hc=>by simpa using h2 c hc⟩;have:=h1 c hc;simp only[aDb]at this;rcases A6 key c.key with h|h
 ·exact absurd h this
 ·exact h
theorem A7 {n:bg}(h:iu n.cells)(key:cc):iD n key<=n.cells.length/\(∀c∈n.cells.take (iD n key),jY c.key key)/\∀c∈n.cells.drop (iD n key),eC key c.key:=by
 obtain⟨h1,h2⟩:=rz h (fun k=>decide (eC key k)) fun a b vj ha=>by
  simp only[aBR]at*;exact ko ha vj
 exact⟨aCM,fun c hc=>by have:=h1 c hc;simpa[jY]using this,fun c hc=>by simpa using h2 c hc⟩
theorem VK {n:bg}(h:iu n.cells)(key:cc):iD n key=match n.cells[n.find key]? with|some c=>if c.key=key then n.find key+1 else n.find key|none=>n.find key:=by
 obtain⟨f1,f2,f3⟩:=qc h key;obtain⟨k1,k2,k3⟩:=A7 h key
 have hle:n.find key<=iD n key:=by
  rcases aBT (iD n key) (n.find key)with hlt|nN
  ·have hl:iD n key<n.cells.length:=by omega
   have a:=k3 n.cells[iD n key] (by rw[aAS hl];exact aBF);have b:=f2 n.cells[iD n key] (by rw[List.mem_iff_getElem];exact⟨iD n key,by rw[aAN];omega,by simp⟩);exact absurd a (kq b)
  ·exact nN
 have NL:∀j,n.find key<=j->j<iD n key->∃hj:j<n.cells.length,n.cells[j].key=key:=fun j h1 h2=>by
  have hl:j<n.cells.length:=by omega
  have a:=k2 n.cells[j] (by rw[List.mem_iff_getElem];exact⟨j,by rw[aAN];omega,by simp⟩);have b:=f3 n.cells[j] (by rw[List.mem_iff_getElem];exact⟨j-n.find key,by rw[aAX];omega,by simp;congr 1;omega⟩);exact⟨hl,CD a b⟩
 cases hg:n.cells[n.find key]? with
 |none=>
  rw[List.getElem?_eq_none_iff]at hg;dsimp only;omega
 |some c=>
  obtain⟨hl,hc⟩:=aAP.1 hg;dsimp only
  by_cases he:c.key=key
  ·rw[aAI he]
   have h1:n.find key<iD n key:=by
    rcases aBT (n.find key) (iD n key)with h|h
    ·exact h
    ·have:iD n key=n.find key:=by omega
     have a:=k3 n.cells[n.find key] (by rw[this,aAS hl];exact aBF);rw[hc,he]at a;exact absurd a (gq _)
   have h2:iD n key<=n.find key+1:=by
    rcases aBT (n.find key+1) (iD n key)with h3|h3
    ·obtain⟨x1,x2⟩:=NL (n.find key) (aAE _) h1;obtain⟨y1,y2⟩:=NL (n.find key+1) (by omega) h3;have:=aCT.1 h (n.find key) (n.find key+1) x1 y1 (by omega);rw[x2,y2]at this;exact absurd this (gq _)
    ·exact h3
   omega
  ·rw[aAH he];rcases aBT (n.find key) (iD n key)with h|h
   ·obtain⟨x1,x2⟩:=NL (n.find key) (aAE _) h;rw[hc]at x2;exact absurd x2 he
   ·omega
theorem zE.key {S:rL}(hS:∀k lo hi L q,S k lo hi L q->Ay lo hi L){ks:List Nat}{ss:List cc}{lo jW key:cc}{L:List bA}{ps:List Nat}(h:zE S ks ss lo jW L ps)(Du:jY lo key)(hs:∀s∈ss,jY s key):jY jW key:=by
 induction ks generalizing ss lo L ps with
 |nil=>cases ss with
  |nil=>obtain⟨rfl,_⟩:=h;exact Du
  |cons s ss=>exact h.elim
 |cons k ks ih=>
  cases ss with
  |nil=>exact h.elim
  |cons s ss=>
   obtain⟨L1,p1,L2,p2,h1,h2,rfl,rfl⟩:=h;exact ih h2 (hs s (by simp)) fun t ht=>hs t (by simp[ht])
theorem LO.key {S:rL}{ks:List Nat}{ss:List cc}{jW hi:Option cc}{key:cc}{L:List bA}{ps:List Nat}(h:LO S ks ss jW hi L ps)(Gr:A3 key hi)(hs:∀s∈ss,eC key s):A3 key jW:=by
 cases ks with
 |nil=>cases ss with
  |nil=>obtain⟨rfl,_⟩:=h;exact Gr
  |cons s ss=>exact h.elim
 |cons k ks=>
  cases ss with
  |nil=>exact h.elim
  |cons s ss=>obtain⟨rfl,_⟩:=h;exact hs s (by simp)
theorem Ctx.descend {G:GM}{l:List cO}{h page:Nat}{lo:cc}{hi:Option cc}{Ll Lr L:List bA}{ps q:List Nat}{n:bg}{key:cc}(hc:Ctx G (h+1) l page lo hi Ll Lr ps)(hn:mL G page n)(kI:uu G (h+1) n lo hi L q)(Du:jY lo key)(Gr:A3 key hi):
 ∃wL Hu wY La Lm Lb p2 pm,n.kids[iD n key]?=some wL/\Ctx G h (⟨page,iD n key,n⟩::l) wL Hu wY (Ll++La) (Lb++Lr) p2/\Sub G h wL Hu wY Lm pm/\jY Hu key/\A3 key wY/\L=La++(Lm++Lb)/\(pm++p2).Perm (page::(q++ps)):=by
 obtain⟨k1,k2,k3⟩:=A7 hn.ok.sorted key;obtain⟨c1,c2⟩:=kI;have hlen:=c2.len;rw[jP]at hlen;generalize iD n key=i at*;have fv:i<n.kids.length:=by omega
 have c3:=c2;rw[yG n.kids i n.kids[i] (aAC fv)]at c3;rw[<-aBm i n.eW]at c3;have Dv:(n.kids.take i).length=(n.eW.take i).length:=by rw[aAN,aAN,jP];omega
 obtain⟨Hu,La,pa,L2,p2,d1,d2,rfl,rfl⟩:=(bW.split Dv).1 c3;obtain⟨wY,Lm,pm,Lb,pb,d3,d4,rfl,rfl⟩:=bW.focus.1 d2;refine⟨n.kids[i],Hu,wY,La,Lm,Lb,_,pm,aAC fv,⟨lo,hi,Ll,Lr,ps,La,pa,Lb,pb,hc,hn,c1,aAC fv,d1,d4,rfl,rfl,rfl⟩,d3, ?_, ?_,rfl, ?_⟩
 ·refine d1.key Sub.rA Du fun s hs=> ?_;have:s∈(n.cells.take i).map (·.key):=by rw[aCk];exact hs
  obtain⟨c,hc,rfl⟩:=aBd.1 this;exact k2 c hc
 ·refine d4.key Gr fun s hs=> ?_;have:s∈(n.cells.drop i).map (·.key):=by rw[aBZ];exact hs
  obtain⟨c,hc,rfl⟩:=aBd.1 this;exact k3 c hc
 ·refine(aCp.2 fun x=> ?_);simp only[aCy,aCL];omega
theorem qN {G:GM}(hG:um G){n:Nat}(h:G.bP n):n<=pT:=by
 have:=h.2.1;have:=hG.jv;have:=hG.size;show n<=2147483647;omega
theorem Kept.trans {G G' G'':GM}{ps:List Nat}(h:Kept G G' ps)(k:Kept G' G'' ps):Kept G G'' ps:=fun q hq=>⟨fun hu=>(k q hq).1 ((h q hq).1 hu),by rw[(k q hq).2,(h q hq).2]⟩
theorem ua {G:GM}(ha:JG G){ps:List Nat}(h:G.dS∉ps):Kept G G.alloc ps:=fun q hq=>⟨fun hu=>(ha.bP q).2 (.inl hu),ha.cont q fun e=>h (e▸hq)⟩
structure Gd (G:GM)(b:bg)(G':GM)(r:Nat):Prop where
 ok:um G'
 not:¬G.bP r
 is:mL G' r b
 kept:∀ps,r∉ps->Kept G G' ps
 root:G'.root=G.root
 free:G'.cJ+1=G.cJ
 aE:G'.aE=G.aE
 bP:∀q,G'.bP q↔G.bP q\/q=r
theorem O7 {G:GM}(hG:um G)(hf:0<G.cJ){b:bg}(hb:b.ok)(hs:b.size<=512)(hn:b.leaf=true\/b.cells≠[]):Gd G b (G.alloc.put G.dS (.node b)) G.dS:=by
 have ha:=sM hG hf;exact⟨ha.ok.put _ _,ha.not,⟨(ha.bP _).2 (.inr rfl),l5 _ _ _,hb,hs,hn⟩,fun ps hp=>(ua ha hp).trans (kV hp),ha.root,ha.free,ha.aE,ha.bP⟩
theorem GL {G G2 G3:GM}{h page r r':Nat}{L:List bA}{q:List Nat}{n a b:bg}{i:Nat}{s:cc}(hG:um G)(hu:G.bP page)(hn:n.ok)(H:zF n a b i s)(kI:uu G h n [] none L q)(iQ:(page::q).Nodup)
 (h2:Gd (G.put page (.node a)) b G2 r) (h3:Gd G2 ⟨false,[fK s],[page,r]⟩ G3 r'):ic (G3.gJ r') L:=by
 obtain⟨L1,q1,L2,q2,c1,c2,rfl,rfl⟩:=kI.cut hn H;rw[aAQ]at iQ;have YT:page∉q1/\page∉q2:=by simpa using iQ.1
 have u1:∀x∈q1,G.bP x:=c1.aE;have u2:∀x∈q2,G.bP x:=c2.aE;have hr:r≠page/\r∉q1/\r∉q2:=⟨fun e=>h2.not (e▸hu),fun h=>h2.not (u1 r h),fun h=>h2.not (u2 r h)⟩;have zN:r'≠page/\r'≠r/\r'∉q1/\r'∉q2:=⟨fun e=>h3.not ((h2.bP _).2 (.inl (e▸hu))),fun e=>h3.not ((h2.bP _).2 (.inr e)),fun h=>h3.not ((h2.bP _).2 (.inl (u1 r' h))),fun h=>h3.not ((h2.bP _).2 (.inl (u2 r' h)))⟩;have kp:∀ps,page∉ps->r∉ps->r'∉ps->Kept G (G3.gJ r') ps:=fun ps x1 x2 x3=>((kV x1).trans (h2.kept ps x2)).trans (h3.kept ps x3);have kp2:∀ps,r∉ps->r'∉ps->Kept (G.put page (.node a)) (G3.gJ r') ps:=fun ps x2 x3=>(h2.kept ps x2).trans (h3.kept ps x3);have Ov:a.leaf=true\/a.cells≠[]:= .inr H.Yz;refine⟨h3.ok.gJ _, .inr ⟨h+1,r'::((page::q1)++(r::q2)), ?_,⟨false,[fK s],[page,r]⟩,_,⟨h3.is.bP,h3.is.cont,h3.is.ok,h3.is.size,h3.is.full⟩,⟨rfl, ?_⟩,rfl⟩⟩
 ·have wa:=iQ.2;rw[aBy]at wa;obtain⟨n1,n2,n3⟩:=wa;simp only[aBC,aAQ,aAD,aAM,aBY,aBy]
  exact⟨⟨zN.1,zN.2.2.1,zN.2.1,zN.2.2.2⟩,⟨YT.1,aBE hr.1,YT.2⟩,n1,⟨hr.2.2,n2⟩,fun x hx y hy=>by
   rcases hy with rfl|hy
   ·exact fun e=>hr.2.1 (e▸hx)
   ·exact n3 x hx y hy⟩
 ·show bW (Sub (G3.gJ r') h) [page,r] [s] [] none (L1++L2) _;rw[bW.cons];refine⟨L1,page::q1,L2,r::q2,⟨a,q1, ?_,c1.kept (kp q1 YT.1 hr.2.1 zN.2.2.1),rfl⟩, ?_,rfl,rfl⟩
  ·exact mL.kept (G:=G.put page (.node a)) ⟨hu,l5 _ _ _,H.Vw,H.ZR,Ov⟩ (kp2 [page] (by simpa using hr.1) (by simpa using zN.1))
  ·rw[bW.one];refine⟨rfl,b,q2,h2.is.kept (h3.kept [r] (by simpa using zN.2.1)),c2.kept (kp q2 YT.2 hr.2.2 zN.2.2.2),rfl⟩
def mB (n:bg)(i:Nat)(s:cc)(r:Nat):bg:=⟨false,n.cells.take i++fK s::n.cells.drop i,n.kids.take (i+1)++r::n.kids.drop (i+1)⟩
theorem Kj (n:bg)(i:Nat)(s:cc)(r:Nat):(mB n i s r).eW=n.eW.take i++([s]++n.eW.drop i):=by
 unfold bg.eW mB;simp[fK,aCk,aBZ]
theorem rU {s:cc}(h:s.length<=48):(fK s).ok false:=⟨h,fun _=>⟨rfl,rfl,rfl⟩,fun h=>(by cases h),fun h=>(by cases h)⟩
theorem Cu {S:rL}(hS:∀k lo hi L q,S k lo hi L q->Ay lo hi L){m:bg}{lo:cc}{hi:Option cc}{L:List bA}{q:List Nat}(hl:m.leaf=false)(hc:∀c∈m.cells,c.ok false)(hk:∀k∈m.kids,k<=pT)(h:bW S m.kids m.eW lo hi L q):m.ok:=by
 obtain⟨_,_,h3⟩:=h.facts hS;refine⟨by rw[hl];exact hc, ?_, ?_,hk⟩
 ·unfold bg.eW at h3;rw[aCG]at h3;exact h3
 ·rw[hl,aAH (by decide),h.len,jP]
theorem hO (leaf:Bool)(l:List dh)(i:Nat):(cK leaf (l.take i)).length+(cK leaf (l.drop i)).length=(cK leaf l).length:=by
 rw[<-aAG,<-eh,aBm]
theorem qu (l:List Nat)(i:Nat):(eK (l.take i)).length+(eK (l.drop i)).length=(eK l).length:=by
 rw[<-aAG,<-ix,aBm]
theorem Qg (m:Nat):(uv (m+1)).length<=(uv m).length+1:=by
 induction m using Nat.strongRecOn with
 |_ n ih=>
  by_cases hn:127<n
  ·rw[ir hn,ir (n:=n+1) (by omega),aBb,aBb];have h3:=ih (n/128) (by omega);have h4:(uv ((n+1)/128)).length<=(uv (n/128+1)).length:=uB (by omega);omega
  ·have:(uv (n+1)).length<=2:=pE (by omega);rw[eI (n:=n) (by omega)];omega
theorem Ki {n:bg}(hl:n.leaf=false){i r:Nat}{s:cc}(hi:i<=n.cells.length)(hs:s.length<=48)(hr:r<=pT):(mB n i s r).size<=n.size+55:=by
 rw[bX,bX,hl];have h1:=hO false n.cells i;have h2:=qu n.kids (i+1);have h3:=(iI (rU hs)).2.2 rfl;have h4:=(jE r hr).2;have h5:=Qg n.cells.length;have e:(mB n i s r).cells.length=n.cells.length+1:=by unfold mB;simp;omega
 rw[e];unfold mB;simp only[aAz,aAO,eh,fo,ix,nz,aAG];omega
theorem JO {G G2:GM}{sm:cO}{l:List cO}{h page r:Nat}{lo:cc}{hi:Option cc}{Ll Lr L:List bA}{ps q:List Nat}{n a b:bg}{i:Nat}{s:cc}(hc:Ctx G h (sm::l) page lo hi Ll Lr ps)(hG:um G)(hu:G.bP page)(hn:n.ok)(H:zF n a b i s)(kI:uu G h n lo hi L q)(iQ:(page::(q++ps)).Nodup)
 (h2:Gd (G.put page (.node a)) b G2 r):sm.at_<=sm.n.cells.length/\sm.n.leaf=false/\(mB sm.n sm.at_ s r).ok/\(mB sm.n sm.at_ s r).size<=600/\G2.bP sm.page/\
  ∃kF fv xK xJ L' nX q',Ctx G2 (h+1) l sm.page kF fv xK xJ nX/\uu G2 (h+1) (mB sm.n sm.at_ s r) kF fv L' q'/\(sm.page::(q'++nX)).Nodup/\xK++(L'++xJ)=Ll++(L++Lr):=by
 obtain⟨kF,fv,xK,xJ,nX,La,pa,Lb,pb,d1,d2,d3,d4,d5,d6,rfl,rfl,rfl⟩:=hc;obtain⟨L1,q1,L2,q2,c1,c2,rfl,rfl⟩:=kI.cut hn H;obtain⟨pz,_⟩:=aAP.1 d4;have qB:=d2.ok.jf;rw[d3,aAH (by decide)]at qB;have Dw:sm.at_<=sm.n.cells.length:=by omega
 have Am:s.length<=48:=by rw[H.key];exact(hn.cell _ (aAW ..)).key
 have hrm:=qN h2.ok h2.is.bP;have ji:∀x,G.bP x->x≠r:=fun x hx e=>h2.not (e▸hx)
 have upa:∀x,x∈pa\/x∈pb\/x∈nX\/x=sm.page->G.bP x:=fun x hx=>by
  have hcx:∀x∈sm.page::(pa++(pb++nX)),G.bP x:=Ctx.aE (l:=sm::l) (page:=page) (h:=h) ⟨kF,fv,xK,xJ,nX,La,pa,Lb,pb,d1,d2,d3,d4,d5,d6,rfl,rfl,rfl⟩;refine hcx x ?_;simp only[aAD,aAM];rcases hx with h|h|h|h<;>simp[h]
 have ET:=iQ;simp only[aAQ,aAM,aAD,aBY,aBy]at iQ;obtain⟨⟨⟨y1,y2⟩,y3,y4,y5,y6⟩,⟨y7,y8,y9⟩,⟨⟨z1,z2,z3⟩,z4,⟨z5,z6,z7⟩,z8⟩,z9⟩:=iQ;have kp:∀ps,page∉ps->r∉ps->Kept G G2 ps:=fun ps x1 x2=>(kV x1).trans (h2.kept ps x2)
 have k1:Kept G G2 (sm.page::(pa++(pb++nX))):=kp _ (by simp only[aAD,aAM,aBY];exact⟨y3,y4,y5,y6⟩) (fun hr=>by
  simp only[aAD,aAM]at hr;refine ji r (upa r ?_) rfl;rcases hr with h|h|h|h<;>simp[h])
 have Ov:a.leaf=true\/a.cells≠[]:= .inr H.Yz;have Tt:r∉q1:=fun hh=>ji r (c1.aE r hh) rfl;have Be:r∉q2:=fun hh=>ji r (c2.aE r hh) rfl;have hrp:r≠page:=fun e=>ji page hu e.symm;have sa:Sub G2 h page lo (some s) L1 (page::q1):=⟨a,q1,mL.kept (G:=G.put page (.node a)) ⟨hu,l5 _ _ _,H.Vw,H.ZR,Ov⟩ (h2.kept _ (by simpa using hrp)),c1.kept (kp _ y1 Tt),rfl⟩;have sb:Sub G2 h r s hi L2 (r::q2):=⟨b,q2,h2.is,c2.kept (kp _ y2 Be),rfl⟩;have WE:bW (Sub G2 h) [page,r] [s] lo hi (L1++L2) ((page::q1)++(r::q2)):=bW.cons.2 ⟨L1,_,L2,_,sa,bW.one.2 ⟨rfl,sb⟩,rfl,rfl⟩;have ka:=d5.mono (S':=Sub G2 h) fun _ _ _ _ qq hq hS=>hS.kept (k1.sub fun x hx=>by simp[hq x hx]);have kb:=d6.mono (S':=Sub G2 h) fun _ _ _ _ qq hq hS=>hS.kept (k1.sub fun x hx=>by simp[hq x hx]);have qz:sm.n.kids.take (sm.at_+1)=sm.n.kids.take sm.at_++[page]:=by rw[aAR pz];congr 2
 have fP:bW (Sub G2 h) (mB sm.n sm.at_ s r).kids (mB sm.n sm.at_ s r).eW kF fv (La++((L1++L2)++Lb)) (pa++(((page::q1)++(r::q2))++pb)):=by
  rw[Kj]
  have e:(mB sm.n sm.at_ s r).kids=sm.n.kids.take sm.at_++([page,r]++sm.n.kids.drop (sm.at_+1)):=by
   show sm.n.kids.take (sm.at_+1)++r::_=_;rw[qz];simp
  rw[e];exact(bW.split d5.len).2 ⟨lo,La,pa,_,_,ka,WE.Om kb,rfl,rfl⟩
 have hok:(mB sm.n sm.at_ s r).ok:=by
  refine Cu Sub.rA rfl (fun c hc=> ?_) (fun k hk=> ?_) fP
  ·have hc:c∈sm.n.cells.take sm.at_++fK s::sm.n.cells.drop sm.at_:=hc;have ij:∀c∈sm.n.cells,c.ok false:=by have:=d2.ok.cell;rw[d3]at this;exact this
   rcases aAM.1 hc with hc|hc
   ·exact ij c (aBp hc)
   ·rcases aAD.1 hc with rfl|hc
    ·exact rU Am
    ·exact ij c (aBv hc)
  ·have hk:k∈sm.n.kids.take (sm.at_+1)++r::sm.n.kids.drop (sm.at_+1):=hk;rcases aAM.1 hk with hk|hk
   ·exact d2.ok.A8 k (aBp hk)
   ·rcases aAD.1 hk with rfl|hk
    ·exact hrm
    ·exact d2.ok.A8 k (aBv hk)
 refine⟨Dw,d3,hok, ?_,k1 sm.page (by simp)|>.1 d2.bP,kF,fv,xK,xJ,_,nX,_,Ctx.kept (G:=G) h2.root d1 (k1.sub fun x hx=>by simp[hx]),⟨rfl,fP⟩, ?_,by simp⟩
 ·have:=Ki d3 Dw Am hrm (n:=sm.n);have:=d2.size;omega
 ·have LF:∀x,x∈pa\/x∈pb\/x∈nX\/x=sm.page->x≠r:=fun x hx=>ji x (upa x hx)
  have hP:(sm.page::((pa++(((page::q1)++(r::q2))++pb))++nX)).Perm (r::(page::((q1++q2)++(sm.page::(pa++(pb++nX)))))):=by
   refine(aCp.2 fun x=> ?_);simp only[aCy,aCL];omega
  refine hP.nodup_iff.2 (aAQ.2 ⟨?_,ET⟩);simp only[aAD,aAM,aBY];exact⟨hrp,⟨Tt,Be⟩,fun e=>LF _ (.inr (.inr (.inr rfl))) e.symm,fun h=>LF _ (.inl h) rfl,fun h=>LF _ (.inr (.inl h)) rfl,fun h=>LF _ (.inr (.inr (.inl h))) rfl⟩
structure sQ where
 kF:cc
 fv:Option cc
 xK:List bA
 xJ:List bA
 nX:List Nat
 La:List bA
 pa:List Nat
 Lb:List bA
 pb:List Nat
 Hu:cc
 wY:Option cc
 L1:List bA
 q1:List Nat
 L2:List bA
 q2:List Nat
structure uo (G:GM)(h:Nat)(sm:cO)(l:List cO)(left:Nat)(first second:bg)(sep:cc)(pf pn:Nat)(LL:List bA)(aE:List Nat)(d:sQ):Prop where
 ctx:Ctx G (h+1) l sm.page d.kF d.fv d.xK d.xJ d.nX
 node:mL G sm.page sm.n
 inner:sm.n.leaf=false
 Nc:sm.n.kids[left]?=some pf
 Ra:sm.n.kids[left+1]?=some pn
 aik:sm.n.eW[left]?=some sep
 kl:zE (Sub G h) (sm.n.kids.take left) (sm.n.eW.take left) d.kF d.Hu d.La d.pa
 c1:uu G h first d.Hu (some sep) d.L1 d.q1
 c2:uu G h second sep d.wY d.L2 d.q2
 kr:LO (Sub G h) (sm.n.kids.drop (left+2)) (sm.n.eW.drop (left+1)) d.wY d.fv d.Lb d.pb
 total:d.xK++((d.La++((d.L1++d.L2)++d.Lb))++d.xJ)=LL
 perm:(pf::pn::((d.q1++d.q2)++(sm.page::(d.pa++(d.pb++d.nX))))).Perm aE
 u1:G.bP pf
 u2:G.bP pn
 ok1:first.ok
 ok2:second.ok
theorem Br {α:Type}{l:List α}{i:Nat}{x:α}{r:List α}(h:l.drop i=x::r):l[i]?=some x/\l.drop (i+1)=r:=by
 have hi:i<l.length:=by
  rcases aBT i l.length with h2|h2
  ·exact h2
  ·rw[aBj h2]at h;cases h
 rw[aAS hi]at h;simp only[aCm]at h;exact⟨by rw[aAC hi,h.1],h.2⟩
theorem JQ {G:GM}{sm:cO}{l:List cO}{h page:Nat}{lo:cc}{hi:Option cc}{Ll Lr L:List bA}{ps q:List Nat}{n:bg}(hc:Ctx G h (sm::l) page lo hi Ll Lr ps)(hu:G.bP page)(hn:n.ok)(kI:uu G h n lo hi L q)(pz:sm.at_+1<sm.n.kids.length):
 ∃other pn sep d,mL G pn other/\uo G h sm l sm.at_ n other sep page pn (Ll++(L++Lr)) (page::(q++ps)) d:=by
 obtain⟨kF,fv,xK,xJ,nX,La,pa,Lb,pb,d1,d2,d3,d4,d5,d6,rfl,rfl,rfl⟩:=hc;have qB:=d2.ok.jf;rw[d3,aAH (by decide)]at qB;obtain⟨k2,r2,kH⟩:∃k r,sm.n.kids.drop (sm.at_+1)=k::r:=⟨_,_,aAS pz⟩;obtain⟨s2,t2,LD⟩:∃s t,sm.n.eW.drop sm.at_=s::t:=⟨_,_,aAS (by rw[jP];omega)⟩;rw[kH,LD]at d6;obtain⟨rfl,e1⟩:=d6;obtain⟨jW,L1,p1,L2,p2,e2,e3,rfl,rfl⟩:=bW.focus.1 e1;obtain⟨other,qo,f1,f2,rfl⟩:=e2;obtain⟨g1,g2⟩:=Br kH;obtain⟨g3,g4⟩:=Br LD;refine⟨other,k2,s2,⟨kF,fv,xK,xJ,nX,La,pa,L2,p2,lo,jW,L,q,L1,qo⟩,f1,⟨d1,d2,d3,d4,g1,g3,d5,kI,f2,by rw[g2,g4];exact e3,by simp, ?_,hu,f1.bP,hn,f1.ok⟩⟩;refine(aCp.2 fun x=> ?_);simp only[aCy,aCL];omega
theorem Mm {G:GM}{sm:cO}{l:List cO}{h page:Nat}{lo:cc}{hi:Option cc}{Ll Lr L:List bA}{ps q:List Nat}{n:bg}{at':Nat}(hc:Ctx G h (sm::l) page lo hi Ll Lr ps)(hu:G.bP page)(hn:n.ok)(kI:uu G h n lo hi L q)(pz:sm.at_=at'+1):
 ∃other pf sep d,mL G pf other/\uo G h sm l at' other n sep pf page (Ll++(L++Lr)) (page::(q++ps)) d:=by
 obtain⟨kF,fv,xK,xJ,nX,La,pa,Lb,pb,d1,d2,d3,d4,d5,d6,rfl,rfl,rfl⟩:=hc;have qB:=d2.ok.jf;rw[d3,aAH (by decide)]at qB;obtain⟨amn,_⟩:=aAP.1 d4;rw[pz]at d4 d5 d6 amn;have px:at'<sm.n.kids.length:=by omega
 have Gi:at'<sm.n.eW.length:=by rw[jP];omega
 rw[aAR px,aAR Gi]at d5;obtain⟨m,L1,p1,L2,p2,e1,e2,rfl,rfl⟩:=(zE.append (by rw[aAN,aAN];omega)).1 d5;obtain⟨L3,p3,L4,p4,e3,⟨e4,rfl,rfl⟩,rfl,rfl⟩:=e2;subst e4;obtain⟨other,qo,f1,f2,rfl⟩:=e3;refine⟨other,sm.n.kids[at'],sm.n.eW[at'],⟨kF,fv,xK,xJ,nX,L1,p1,Lb,pb,m,hi,L3,qo,L,q⟩,f1,⟨d1,d2,d3,aAC px,d4,aAC Gi,e1,f2,kI,d6,by simp, ?_,f1.bP,hu,f1.ok,hn⟩⟩;refine(aCp.2 fun x=> ?_);simp only[aCy,aCL,List.count_nil];omega
def sV (n:bg)(i:Nat):bg:=⟨false,n.cells.take i++n.cells.drop (i+1),n.kids.take (i+1)++n.kids.drop (i+2)⟩
def iY (n:bg)(i:Nat)(s:cc):bg:=⟨false,n.cells.take i++fK s::n.cells.drop (i+1),n.kids⟩
structure Ax (G:GM)(h:Nat)(page:Nat)(l:List cO)(m:bg)(LL:List bA):Prop where
 ok:um G
 bP:G.bP page
 Ly:m.ok
 ctx:∃lo hi Ll Lr L ps q,Ctx G h l page lo hi Ll Lr ps/\uu G h m lo hi L q/\(page::(q++ps)).Nodup/\Ll++(L++Lr)=LL
theorem ui {G:GM}{h:Nat}{sm:cO}{l:List cO}{left:Nat}{first second:bg}{sep:cc}{pf pn:Nat}{LL:List bA}{aE:List Nat}{d:sQ}(b:uo G h sm l left first second sep pf pn LL aE d):sep.length<=48/\left<sm.n.cells.length/\sm.n.kids.length=sm.n.cells.length+1/\∃c,sm.n.cells[left]?=some c/\c.key=sep:=by
 have hs:=b.aik;unfold bg.eW at hs;rw[aBw]at hs;have qB:=b.node.ok.jf;rw[b.inner,aAH (by decide)]at qB;cases hc:sm.n.cells[left]? with
 |none=>rw[hc]at hs;cases hs
 |some c=>
  rw[hc]at hs;have:c.key=sep:=aCd hs;obtain⟨hl,qx⟩:=aAP.1 hc;exact⟨by rw[<-this];exact(b.node.ok.cell c (aBx hc)).key,hl,qB,c,rfl,this⟩
theorem FO {G:GM}{h:Nat}{sm:cO}{l:List cO}{left:Nat}{first second:bg}{sep:cc}{pf pn:Nat}{LL:List bA}{aE:List Nat}{d:sQ}(b:uo G h sm l left first second sep pf pn LL aE d)(hG:um G)(iQ:aE.Nodup)(hs:(dy first sep second).size<=512):
 (G.put pf (.node (dy first sep second))).bP pn/\Ax ((G.put pf (.node (dy first sep second))).drop pn) (h+1) sm.page l (sV sm.n left) LL/\(sV sm.n left).size<=512/\((G.put pf (.node (dy first sep second))).drop pn).cJ=G.cJ+1:=by
 obtain⟨Yw,hl,qB,c,hc,wg⟩:=ui b;obtain⟨j1,j2,j3⟩:=b.c1.join b.c2 b.ok1 b.ok2 Yw;have ET:=b.perm.nodup_iff.2 iQ;have wa:=ET;simp only[aAQ,aAM,aAD,aBY,aBy]at wa;obtain⟨⟨x1,⟨x2,x3⟩,x4,x5,x6,x7⟩,⟨⟨x8,x9⟩,db,cW,dx,cZ⟩,-⟩:=wa;have hD:=sE (hG.put pf (.node (dy first sep second))) (show(G.put pf _).bP pn from b.u2)
 have jS:(dy first sep second).leaf=true\/(dy first sep second).cells≠[]:=by
  unfold dy;split
  ·exact .inl rfl
  ·exact .inr (by simp)
 have kp:∀ps,pf∉ps->pn∉ps->Kept G ((G.put pf (.node (dy first sep second))).drop pn) ps:=fun ps a b q hq=>⟨fun hu=>(hD.bP q).2 ⟨hu,fun e=>b (e▸hq)⟩,Ha _ _ _ _ fun e=>a (e▸hq)⟩;have gL:pf≠pn:=x1
 have sw:Sub ((G.put pf (.node (dy first sep second))).drop pn) h pf d.Hu d.wY (d.L1++d.L2) (pf::(d.q1++d.q2)):=
  ⟨_,_,⟨(hD.bP pf).2 ⟨b.u1,gL⟩,l5 _ _ _,j2,hs,jS⟩,j1.kept (kp _ (by simp;exact⟨x2,x3⟩) (by simp;exact⟨x8,x9⟩)),rfl⟩
 have kc:Kept G ((G.put pf (.node (dy first sep second))).drop pn) (sm.page::(d.pa++(d.pb++d.nX))):=kp _ (by simp only[aAD,aAM,aBY];exact⟨x4,x5,x6,x7⟩) (by simp only[aAD,aAM,aBY];exact⟨db,cW,dx,cZ⟩);have ka:=b.kl.mono (S':=Sub ((G.put pf (.node (dy first sep second))).drop pn) h) fun _ _ _ _ qq hq hS=>hS.kept (kc.sub fun x hx=>by simp[hq x hx]);have kb:=b.kr.mono (S':=Sub ((G.put pf (.node (dy first sep second))).drop pn) h) fun _ _ _ _ qq hq hS=>hS.kept (kc.sub fun x hx=>by simp[hq x hx]);obtain⟨px,WV⟩:=aAP.1 b.Nc
 have fP:bW (Sub ((G.put pf (.node (dy first sep second))).drop pn) h) (sV sm.n left).kids (sV sm.n left).eW d.kF d.fv (d.La++((d.L1++d.L2)++d.Lb)) (d.pa++((pf::(d.q1++d.q2))++d.pb)):=by
  have e1:(sV sm.n left).eW=sm.n.eW.take left++([]++sm.n.eW.drop (left+1)):=by unfold bg.eW sV;simp[aCk,aBZ]
  have e2:(sV sm.n left).kids=sm.n.kids.take left++([pf]++sm.n.kids.drop (left+2)):=by
   show sm.n.kids.take (left+1)++_=_;rw[aAR px,WV];simp
  rw[e1,e2];exact(bW.split b.kl.len).2 ⟨d.Hu,d.La,d.pa,_,_,ka,bW.Om (bW.one.2 ⟨rfl,sw⟩) kb,rfl,rfl⟩
 have ij:∀c∈sm.n.cells,c.ok false:=by have:=b.node.ok.cell;rw[b.inner]at this;exact this
 have WD:(sV sm.n left).ok:=by
  refine Cu Sub.rA rfl (fun c hc=> ?_) (fun k hk=> ?_) fP
  ·have hc:c∈sm.n.cells.take left++sm.n.cells.drop (left+1):=hc;rcases aAM.1 hc with hc|hc
   ·exact ij c (aBp hc)
   ·exact ij c (aBv hc)
  ·have hk:k∈sm.n.kids.take (left+1)++sm.n.kids.drop (left+2):=hk;rcases aAM.1 hk with hk|hk
   ·exact b.node.ok.A8 k (aBp hk)
   ·exact b.node.ok.A8 k (aBv hk)
 refine⟨b.u2,⟨hD.ok,(kc sm.page (by simp)).1 b.node.bP,WD,d.kF,d.fv,d.xK,d.xJ,_,d.nX,_,Ctx.kept (G:=G) (G':=(G.put pf (.node (dy first sep second))).drop pn) rfl b.ctx (kc.sub fun x hx=>by simp[hx]),⟨rfl,fP⟩, ?_,b.total⟩, ?_,hD.free⟩
 ·have hP:(pn::(sm.page::((d.pa++((pf::(d.q1++d.q2))++d.pb))++d.nX))).Perm (pf::pn::((d.q1++d.q2)++(sm.page::(d.pa++(d.pb++d.nX))))):=by
   refine(aCp.2 fun x=> ?_);simp only[aCy,aCL];omega
  exact(aAQ.1 (hP.nodup_iff.2 ET)).2
 ·have:=b.node.size;rw[bX,b.inner]at this;rw[bX];have h1:=hO false sm.n.cells left
  have h2:(cK false (sm.n.cells.drop (left+1))).length<=(cK false (sm.n.cells.drop left)).length:=by
   rw[aAS hl,fo,aAG];omega
  have h3:=qu sm.n.kids (left+1)
  have h4:(eK (sm.n.kids.drop (left+2))).length<=(eK (sm.n.kids.drop (left+1))).length:=by
   rw[aAS (show left+1<sm.n.kids.length by omega)];show _<=(eK (_::sm.n.kids.drop (left+2))).length;rw[nz,aAG];omega
  have e:(sV sm.n left).cells.length=sm.n.cells.length-1:=by unfold sV;simp;omega
  have h5:(uv (sm.n.cells.length-1)).length<=(uv sm.n.cells.length).length:=uB (by omega);rw[e];unfold sV;simp only[aAz,aAO,eh,ix,aAG]at this⊢;omega
theorem Dj {G:GM}{h:Nat}{sm:cO}{l:List cO}{left:Nat}{first second:bg}{sep:cc}{pf pn:Nat}{LL:List bA}{aE:List Nat}{d:sQ}(b:uo G h sm l left first second sep pf pn LL aE d)(hG:um G)(iQ:aE.Nodup){a c:bg}{i:Nat}{s:cc}(H:zF (dy first sep second) a c i s):
 Ax ((G.put pf (.node a)).put pn (.node c)) (h+1) sm.page l (iY sm.n left s) LL/\(iY sm.n left s).size<=600/\(G.put pf (.node a)).bP pn/\((G.put pf (.node a)).put pn (.node c)).cJ=G.cJ:=by
 obtain⟨Yw,hl,qB,c0,RX,wg⟩:=ui b;obtain⟨j1,j2,j3⟩:=b.c1.join b.c2 b.ok1 b.ok2 Yw;have Am:s.length<=48:=by rw[H.key];exact(j2.cell _ (aAW ..)).key
 obtain⟨L1,q1,L2,q2,c1,c2,eL,eq⟩:=j1.cut j2 H;have ET:=b.perm.nodup_iff.2 iQ;rw[eq]at ET;have wa:=ET;simp only[aAQ,aAM,aAD,aBY,aBy]at wa;obtain⟨⟨x1,⟨x2,x3⟩,x4,x5,x6,x7⟩,⟨⟨x8,x9⟩,db,cW,dx,cZ⟩,-⟩:=wa;have kp:∀ps,pf∉ps->pn∉ps->Kept G ((G.put pf (.node a)).put pn (.node c)) ps:=fun ps y1 y2=>(kV y1).trans (kV y2)
 have sa:Sub ((G.put pf (.node a)).put pn (.node c)) h pf d.Hu (some s) L1 (pf::q1):=
  ⟨a,q1,⟨b.u1,(Ha _ _ _ _ x1).trans (l5 _ _ _),H.Vw,H.ZR, .inr H.Yz⟩,c1.kept (kp _ x2 x8),rfl⟩
 have sc:Sub ((G.put pf (.node a)).put pn (.node c)) h pn s d.wY L2 (pn::q2):=
  ⟨c,q2,⟨b.u2,l5 _ _ _,H.okB,H.szB, .inr H.neB⟩,c2.kept (kp _ x3 x9),rfl⟩
 have kc:Kept G ((G.put pf (.node a)).put pn (.node c)) (sm.page::(d.pa++(d.pb++d.nX))):=kp _ (by simp only[aAD,aAM,aBY];exact⟨x4,x5,x6,x7⟩) (by simp only[aAD,aAM,aBY];exact⟨db,cW,dx,cZ⟩);have ka:=b.kl.mono (S':=Sub ((G.put pf (.node a)).put pn (.node c)) h) fun _ _ _ _ qq hq hS=>hS.kept (kc.sub fun x hx=>by simp[hq x hx]);have kb:=b.kr.mono (S':=Sub ((G.put pf (.node a)).put pn (.node c)) h) fun _ _ _ _ qq hq hS=>hS.kept (kc.sub fun x hx=>by simp[hq x hx]);obtain⟨px,WV⟩:=aAP.1 b.Nc;obtain⟨kH,alc⟩:=aAP.1 b.Ra
 have fP:bW (Sub ((G.put pf (.node a)).put pn (.node c)) h) (iY sm.n left s).kids (iY sm.n left s).eW d.kF d.fv (d.La++((L1++L2)++d.Lb)) (d.pa++(((pf::q1)++(pn::q2))++d.pb)):=by
  have e1:(iY sm.n left s).eW=sm.n.eW.take left++([s]++sm.n.eW.drop (left+1)):=by unfold bg.eW iY;simp[fK,aCk,aBZ]
  have e2:(iY sm.n left s).kids=sm.n.kids.take left++([pf,pn]++sm.n.kids.drop (left+2)):=by
   show sm.n.kids=_
   conv=>lhs;rw[<-aBm left sm.n.kids,aAS px,aAS kH,WV,alc]
   rfl
  rw[e1,e2];exact(bW.split b.kl.len).2 ⟨d.Hu,d.La,d.pa,_,_,ka,bW.Om (bW.cons.2 ⟨L1,_,L2,_,sa,bW.one.2 ⟨rfl,sc⟩,rfl,rfl⟩) kb,rfl,rfl⟩
 have ij:∀c∈sm.n.cells,c.ok false:=by have:=b.node.ok.cell;rw[b.inner]at this;exact this
 have WD:(iY sm.n left s).ok:=by
  refine Cu Sub.rA rfl (fun c hc=> ?_) (fun k hk=>b.node.ok.A8 k hk) fP;have hc:c∈sm.n.cells.take left++fK s::sm.n.cells.drop (left+1):=hc;rcases aAM.1 hc with hc|hc
  ·exact ij c (aBp hc)
  ·rcases aAD.1 hc with rfl|hc
   ·exact rU Am
   ·exact ij c (aBv hc)
 refine⟨⟨(hG.put _ _).put _ _,(kc sm.page (by simp)).1 b.node.bP,WD,d.kF,d.fv,d.xK,d.xJ,_,d.nX,_,Ctx.kept (G:=G) (G':=(G.put pf (.node a)).put pn (.node c)) rfl b.ctx (kc.sub fun x hx=>by simp[hx]),⟨rfl,fP⟩, ?_,by rw[<-eL];exact b.total⟩, ?_,b.u2,rfl⟩
 ·have hP:(sm.page::((d.pa++(((pf::q1)++(pn::q2))++d.pb))++d.nX)).Perm (pf::pn::((q1++q2)++(sm.page::(d.pa++(d.pb++d.nX))))):=by
   refine(aCp.2 fun x=> ?_);simp only[aCy,aCL];omega
  exact hP.nodup_iff.2 ET
 ·have:=b.node.size;rw[bX,b.inner]at this;rw[bX];have h1:=hO false sm.n.cells left
  have h2:(cK false (sm.n.cells.drop (left+1))).length<=(cK false (sm.n.cells.drop left)).length:=by
   rw[aAS hl,fo,aAG];omega
  have h3:=(iI (rU Am)).2.2 rfl;have e:(iY sm.n left s).cells.length=sm.n.cells.length:=by unfold iY;simp;omega
  rw[e];unfold iY;simp only[aAz,aAO,eh,fo,aAG]at this⊢;omega
def uN (L:List bA)(key:cc)(v:List UInt8):List bA:=L.filter (fun x=>decide (eC x.1 key))++(key,v)::L.filter (fun x=>decide (eC key x.1))
def pj (L:List bA)(key:cc):List bA:=L.filter (fun x=>decide (eC x.1 key))++L.filter (fun x=>decide (eC key x.1))
def kJ (L:List bA)(key:cc):Option (List UInt8):=(L.find? fun x=>decide (x.1=key)).map (·.2)
theorem ug {L:List bA}{p:bA->Bool}(h:∀x∈L,p x=true):L.filter p=L:=List.filter_eq_self.2 h
theorem om {L:List bA}{p:bA->Bool}(h:∀x∈L,p x=false):L.filter p=[]:=List.filter_eq_nil_iff.2 fun x hx=>by simp[h x hx]
theorem yz {A B:List bA}{key:cc}(hA:∀x∈A,eC x.1 key)(hB:∀x∈B,eC key x.1):(A++B).filter (fun x=>decide (eC x.1 key))=A/\(A++B).filter (fun x=>decide (eC key x.1))=B:=by
 rw[aCl,aCl];refine⟨?_, ?_⟩
 ·rw[ug fun x hx=>by simpa using hA x hx,om fun x hx=>by simpa using kq (hB x hx),aBz]
 ·rw[om fun x hx=>by simpa using kq (hA x hx),ug fun x hx=>by simpa using hB x hx,aBf]
theorem ve {A B:List bA}{key:cc}{v:List UInt8}(hA:∀x∈A,eC x.1 key)(hB:∀x∈B,eC key x.1):(A++(key,v)::B).filter (fun x=>decide (eC x.1 key))=A/\(A++(key,v)::B).filter (fun x=>decide (eC key x.1))=B:=by
 have hk:decide (eC key key)=false:=by simpa using gq key
 rw[aCl,aCl,aBV,aBV];simp only[hk,aAz,aAO];rw[<-aCl,<-aCl];exact yz hA hB
theorem MG {A B:List bA}{key:cc}{v:List UInt8}(hA:∀x∈A,eC x.1 key)(hB:∀x∈B,eC key x.1):uN (A++B) key v=A++(key,v)::B:=by
 unfold uN;obtain⟨h1,h2⟩:=yz hA hB;rw[h1,h2]
theorem MF {A B:List bA}{key:cc}{v w:List UInt8}(hA:∀x∈A,eC x.1 key)(hB:∀x∈B,eC key x.1):uN (A++(key,w)::B) key v=A++(key,v)::B:=by
 unfold uN;obtain⟨h1,h2⟩:=ve (v:=w) hA hB;rw[h1,h2]
theorem OQ {A B:List bA}{key:cc}{w:List UInt8}(hA:∀x∈A,eC x.1 key)(hB:∀x∈B,eC key x.1):pj (A++(key,w)::B) key=A++B:=by
 unfold pj;obtain⟨h1,h2⟩:=ve (v:=w) hA hB;rw[h1,h2]
theorem OS {A B:List bA}{key:cc}(hA:∀x∈A,eC x.1 key)(hB:∀x∈B,eC key x.1):pj (A++B) key=A++B:=by
 unfold pj;obtain⟨h1,h2⟩:=yz hA hB;rw[h1,h2]
theorem Oo {A B:List bA}{key:cc}{w:List UInt8}(hA:∀x∈A,eC x.1 key):kJ (A++(key,w)::B) key=some w:=by
 unfold kJ;rw[List.find?_append]
 have:A.find? (fun x=>decide (x.1=key))=none:=by
  rw[List.find?_eq_none];intro x hx;simpa using (hA x hx).ne
 rw[this];simp
theorem Oq {A B:List bA}{key:cc}(hA:∀x∈A,eC x.1 key)(hB:∀x∈B,eC key x.1):kJ (A++B) key=none:=by
 unfold kJ
 have:(A++B).find? (fun x=>decide (x.1=key))=none:=by
  rw[List.find?_eq_none];intro x hx;rcases aAM.1 hx with hx|hx
  ·simpa using (hA x hx).ne
  ·simpa using aBE (hB x hx).ne
 rw[this];rfl
def uk (G:GM)(key:cc)(f:cO)(rest:List cO)(L:List bA):Prop:=
 ∃lo hi Ll Lr Lm ps q,Ctx G 0 rest f.page lo hi Ll Lr ps/\mL G f.page f.n/\uu G 0 f.n lo hi Lm q/\jY lo key/\A3 key hi/\(f.page::(q++ps)).Nodup/\Ll++(Lm++Lr)=L/\f.at_=f.n.find key
structure nI (G:GM)(key:cc)(f:cO)(rest:List cO)(L:List bA)(lo:cc)(hi:Option cc)(Ll Lr:List bA)(ps:List Nat)(Lt:List bA)(pt:List Nat)(Ld:List bA)(pd:List Nat):Prop where
 ctx:Ctx G 0 rest f.page lo hi Ll Lr ps
 node:mL G f.page f.n
 leaf:f.n.leaf=true
 lt:A3 lo hi
 klo:jY lo key
 khi:A3 key hi
 nd:(f.page::((pt++pd)++ps)).Nodup
 total:Ll++((Lt++Ld)++Lr)=L
 at_:f.at_=f.n.find key
 le:f.at_<=f.n.cells.length
 cl:eS G (f.n.cells.take f.at_) Lt pt
 cd:eS G (f.n.cells.drop f.at_) Ld pd
 Dh:∀c∈f.n.cells,jY lo c.key/\A3 c.key hi
 kt:∀x∈Lt,eC x.1 key
 kd:∀x∈Ld,jY key x.1
 kl:∀x∈Ll,eC x.1 key
 kr:∀x∈Lr,eC key x.1
theorem QZ {key:cc}{hi:Option cc}{k:cc}(h:A3 key hi)(h2:leh hi k):eC key k:=by
 cases hi with
 |none=>exact h2.elim
 |some m=>have h:eC key m:=h;exact h.jO h2
theorem oh {G:GM}{cs:List dh}{L:List bA}{ps:List Nat}(h:eS G cs L ps){x:bA}(hx:x∈L):∃c∈cs,c.key=x.1:=by
 have:x.1∈cs.map (·.key):=by rw[<-h.keys];exact aBK hx
 obtain⟨c,hc,e⟩:=aBd.1 this;exact⟨c,hc,e⟩
theorem uk.CC {G:GM}{key:cc}{f:cO}{rest:List cO}{L:List bA}(h:uk G key f rest L):∃lo hi Ll Lr ps Lt pt Ld pd,nI G key f rest L lo hi Ll Lr ps Lt pt Ld pd:=by
 obtain⟨lo,hi,Ll,Lr,Lm,ps,q,h1,h2,⟨c1,c2,c3,c4⟩,h4,h5,h6,h7,h8⟩:=h;obtain⟨g1,g2,g3⟩:=qc h2.ok.sorted key;rw[<-h8]at g1 g2 g3;rw[<-aBm f.at_ f.n.cells]at c3;obtain⟨Lt,pt,Ld,pd,d1,d2,rfl,rfl⟩:=eS.append.1 c3;obtain⟨s1,s2⟩:=h1.Z1;refine⟨lo,hi,Ll,Lr,ps,Lt,pt,Ld,pd,h1,h2,c1,c2,h4,h5,h6,h7,h8,g1,d1,d2,c4,fun x hx=> ?_,fun x hx=> ?_,fun x hx=>(s1 x hx).jO h4,fun x hx=>QZ h5 (s2 x hx)⟩
 ·obtain⟨c,hc,e⟩:=oh d1 hx;rw[<-e];exact g2 c hc
 ·obtain⟨c,hc,e⟩:=oh d2 hx;rw[<-e];exact g3 c hc
section
variable {G:GM} {key:cc} {f:cO} {rest:List cO} {L:List bA} {lo:cc} {hi:Option cc} {Ll Lr:List bA} {ps:List Nat} {Lt:List bA} {pt:List Nat} {Ld:List bA} {pd:List Nat}
theorem nI.found (h:nI G key f rest L lo hi Ll Lr ps Lt pt Ld pd){c:dh}(hc:f.n.cells[f.at_]?=some c)(hk:c.key=key):∃w po vF zL,Bx G c w po/\eS G (f.n.cells.drop (f.at_+1)) vF zL/\Ld=(key,w)::vF/\pd=po++zL/\(∀x∈vF,eC key x.1)/\kJ L key=some w:=by
 obtain⟨hl,qx⟩:=aAP.1 hc;have hd:=h.cd;rw[aAS hl,qx]at hd;obtain⟨w,po,vF,zL,a,b,rfl,rfl⟩:=hd
 have Bj:∀x∈vF,eC key x.1:=fun x hx=>by
  obtain⟨c',oD,e⟩:=oh b hx;have:=(tM h.node.ok.sorted hl).2.2 c' oD;rw[qx,hk]at this;rw[<-e];exact this
 refine⟨w,po,vF,zL,a,b,by rw[hk],rfl,Bj, ?_⟩;rw[<-h.total];have e:Ll++((Lt++(c.key,w)::vF)++Lr)=(Ll++Lt)++(key,w)::(vF++Lr):=by rw[hk];simp
 rw[e]
 exact Oo fun x hx=>by
  rcases aAM.1 hx with hx|hx
  ·exact h.kl x hx
  ·exact h.kt x hx
theorem nI.EI (h:nI G key f rest L lo hi Ll Lr ps Lt pt Ld pd)(hn:∀c,f.n.cells[f.at_]?=some c->c.key≠key):(∀x∈Ld,eC key x.1)/\kJ L key=none/\pj L key=L:=by
 have Bj:∀x∈Ld,eC key x.1:=fun x hx=>by
  rcases pX.1 (h.kd x hx)with h1|h1
  ·exact h1
  ·obtain⟨c',oD,e⟩:=oh h.cd hx
   have hl:f.at_<f.n.cells.length:=by
    rcases aBT f.at_ f.n.cells.length with h|h
    ·exact h
    ·rw[aBj h]at oD;cases oD
   rw[aAS hl]at oD;rcases aAD.1 oD with e2|oD
   ·exact absurd (by rw[<-e2,e,h1]) (hn _ (aAC hl))
   ·have a1:=(tM h.node.ok.sorted hl).2.2 c' oD;rw[e,<-h1]at a1
    have a2:jY key f.n.cells[f.at_].key:=by
     obtain⟨_,_,g3⟩:=qc h.node.ok.sorted key;rw[<-h.at_]at g3;exact g3 _ (by rw[aAS hl];exact aBF)
    exact absurd a1 a2
 have e:L=(Ll++Lt)++(Ld++Lr):=by rw[<-h.total];simp
 have hA:∀x∈Ll++Lt,eC x.1 key:=fun x hx=>by
  rcases aAM.1 hx with hx|hx
  ·exact h.kl x hx
  ·exact h.kt x hx
 have hB:∀x∈Ld++Lr,eC key x.1:=fun x hx=>by
  rcases aAM.1 hx with hx|hx
  ·exact Bj x hx
  ·exact h.kr x hx
 rw[e];exact⟨Bj,Oq hA hB,OS hA hB⟩
def fg (l:List dh):bg:=⟨true,l,[]⟩
theorem A5 {G2:GM}(h:nI G key f rest L lo hi Ll Lr ps Lt pt Ld pd)(hG:um G2)(yQ:G2.root=G.root){cm:List dh}{Lm:List bA}{pm:List Nat}{k:Nat}{vF:List bA}{po zL:List Nat}(hd:eS G (f.n.cells.drop (f.at_+k)) vF zL)(Tv:pd=po++zL)
 (hK:∀qs,(∀x∈qs,G.bP x/\x∉po)->Kept G G2 qs) (RW:eS G2 cm Lm pm) (RC:∀c∈cm,c.key=key/\c.ok true) (EW:cm.length<=1) (hpm:pm.Nodup) (ji:∀x∈pm,¬(G.bP x/\x∉po)) (Bj:∀x∈vF,eC key x.1):
 Ax G2 0 f.page rest (fg (f.n.cells.take f.at_++(cm++f.n.cells.drop (f.at_+k)))) (Ll++((Lt++(Lm++vF))++Lr)):=by
 subst Tv;have iQ:=h.nd
 have hu:∀x∈pt++(zL++(f.page::ps)),G.bP x/\x∉po:=fun x hx=>by
  have wa:=iQ;simp only[aAQ,aAM,aBY,aBy]at wa;obtain⟨⟨⟨n1,n2,n3⟩,n4⟩,⟨n5,⟨n6,n7,n8⟩,n9⟩,M5,M4⟩:=wa;simp only[aAM,aAD]at hx;rcases hx with hx|hx|rfl|hx
  ·exact⟨h.cl.aE x hx,fun h=>n9 x hx x (.inl h) rfl⟩
  ·exact⟨hd.aE x hx,fun h=>n8 x h x hx rfl⟩
  ·exact⟨h.node.bP,n2⟩
  ·exact⟨h.ctx.aE x hx,fun h=>M4 x (.inr (.inl h)) x hx rfl⟩
 have ij:∀c∈f.n.cells,c.ok true:=by have:=h.node.ok.cell;rw[h.leaf]at this;exact this
 obtain⟨g1,g2,g3⟩:=qc h.node.ok.sorted key;rw[<-h.at_]at g1 g2 g3
 have ack:∀c∈f.n.cells.drop (f.at_+k),eC key c.key:=fun c hc=>by
  have:c.key∈(f.n.cells.drop (f.at_+k)).map (·.key):=aBK hc;rw[<-hd.keys]at this;obtain⟨x,hx,e⟩:=aBd.1 this;rw[<-e];exact Bj x hx
 have E6:key.length<=48\/cm=[]:=by
  cases cm with
  |nil=>exact .inr rfl
  |cons c cm=>left;obtain⟨a,b⟩:=RC c (by simp);rw[<-a];exact b.key
 refine⟨hG,(hK [f.page] (fun x hx=>hu x (by simp at hx;simp[hx])) f.page (by simp)).1 h.node.bP,⟨fun c hc=> ?_, ?_,rfl,by simp[fg]⟩,lo,hi,Ll,Lr,_,ps,pt++(pm++zL),Ctx.kept (G:=G) yQ h.ctx (hK ps fun x hx=>hu x (by simp[hx])),⟨rfl,h.lt, ?_,fun c hc=> ?_⟩, ?_,rfl⟩
 ·rcases aAM.1 hc with hc|hc
  ·exact ij c (aBp hc)
  ·rcases aAM.1 hc with hc|hc
   ·exact(RC c hc).2
   ·exact ij c (aBv hc)
 ·show(f.n.cells.take f.at_++(cm++f.n.cells.drop (f.at_+k))).Pairwise _
  have alU:cm.Pairwise fun a b=>eC a.key b.key:=by
   cases cm with
   |nil=>simp
   |cons c cm=>cases cm with
    |nil=>simp
    |cons d cm=>simp at EW
  refine aCD.2 ⟨pG h.node.ok.sorted _,aCD.2 ⟨alU,pH h.node.ok.sorted _,fun a ha b hb=>by rw[(RC a ha).1];exact ack b hb⟩,fun a ha b hb=> ?_⟩;rcases aAM.1 hb with hb|hb
  ·rw[(RC b hb).1];exact g2 a ha
  ·exact ko (g2 a ha) (ack b hb)
 ·exact eS.append.2 ⟨Lt,pt,_,_,h.cl.kept (hK pt fun x hx=>hu x (by simp[hx])),eS.append.2 ⟨Lm,pm,vF,zL,RW,hd.kept (hK zL fun x hx=>hu x (by simp[hx])),rfl,rfl⟩,rfl,rfl⟩
 ·have hc:c∈f.n.cells.take f.at_++(cm++f.n.cells.drop (f.at_+k)):=hc;rcases aAM.1 hc with hc|hc
  ·exact h.Dh c (aBp hc)
  ·rcases aAM.1 hc with hc|hc
   ·rw[(RC c hc).1];exact⟨h.klo,h.khi⟩
   ·exact h.Dh c (aBv hc)
 ·have wa:(f.page::((pt++zL)++ps)).Nodup:=by
   refine List.Sublist.nodup ?_ iQ;refine List.Sublist.cons_cons _ (List.Sublist.append (List.Sublist.append (List.Sublist.refl _) (List.sublist_append_right _ _)) (List.Sublist.refl _))
  have hP:(f.page::((pt++(pm++zL))++ps)).Perm (pm++(f.page::((pt++zL)++ps))):=by
   refine(aCp.2 fun x=> ?_);simp only[aCy,aCL];omega
  refine hP.nodup_iff.2 (aBy.2 ⟨hpm,wa,fun a ha b hb e=>ji a ha (hu a ?_)⟩);subst e;simp only[aAD,aAM]at hb⊢;rcases hb with h|(h|h)|h<;>simp[h]
end
