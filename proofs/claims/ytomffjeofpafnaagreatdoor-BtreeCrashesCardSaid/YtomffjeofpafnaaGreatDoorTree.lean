import Derived.Test.YtomffjeofpafnaaGreatDoorLimG
namespace Lim
open Go
noncomputable section
set_option linter.defProp false
abbrev cn:=List UInt8
def eD (a b:cn):Prop:=Op.bytesLess a b=true
instance (a b:cn):Decidable (eD a b):=by unfold eD;infer_instance
def kh (a b:cn):Prop:=¬eD b a
instance (a b:cn):Decidable (kh a b):=by unfold kh;infer_instance
def rV (a b:UInt8)(x y:cn):eD (a::x) (b::y)↔a<b\/(a=b/\eD x y):=by
 unfold eD;simp[Op.bytesLess]
def jz (a:cn):¬eD a []:=by unfold eD;cases a<;>simp[Op.bytesLess]
def Dz (a:UInt8)(x:cn):eD [] (a::x):=by unfold eD;simp[Op.bytesLess]
def gC (a:cn):¬eD a a:=by
 induction a with
 |nil=>exact jz _
 |cons a x ih=>rw[rV];rintro(h|⟨_,h⟩);exact absurd h (UInt8.lt_irrefl a);exact ih h
def kT {a b c:cn}(h:eD a b)(k:eD b c):eD a c:=by
 induction a generalizing b c with
 |nil=>cases c with
  |nil=>exact absurd k (jz _)
  |cons c z=>exact Dz _ _
 |cons a x ih=>
  cases b with
  |nil=>exact absurd h (jz _)
  |cons b y=>
   cases c with
   |nil=>exact absurd k (jz _)
   |cons c z=>
    rw[rV]at*;rcases h with h|⟨rfl,h⟩<;>rcases k with k|⟨rfl,k⟩
    .exact .inl (UInt8.lt_trans h k)
    .exact .inl h
    .exact .inl k
    .exact .inr ⟨rfl,ih h k⟩
def LZ (a b:cn):eD a b\/a=b\/eD b a:=by
 induction a generalizing b with
 |nil=>cases b with
  |nil=>exact .inr (.inl rfl)
  |cons b y=>exact .inl (Dz _ _)
 |cons a x ih=>
  cases b with
  |nil=>exact .inr (.inr (Dz _ _))
  |cons b y=>
   rw[rV,rV];rcases aGd a.toNat b.toNat with h|h|h
   .exact .inl (.inl (UInt8.lt_iff_toNat_lt.2 h))
   .have e:=UInt8.toNat_inj.1 h;subst e;rcases ih y with h|rfl|h
    .exact .inl (.inr ⟨rfl,h⟩)
    .exact .inr (.inl rfl)
    .exact .inr (.inr (.inr ⟨rfl,h⟩))
   .exact .inr (.inr (.inl (UInt8.lt_iff_toNat_lt.2 h)))
def kU {a b:cn}(h:eD a b):¬eD b a:=λk=>gC _ (kT h k)
def zI (a:cn):kh a a:=gC a
def eD.le {a b:cn}(h:eD a b):kh a b:=kU h
def qx {a b:cn}:kh a b↔eD a b\/a=b:=by
 constructor
 .intro h;rcases LZ a b with h1|h1|h1;exact .inl h1;exact .inr h1;exact absurd h1 h
 .rintro(h|rfl);exact h.le;exact zI _
def kh.rA {a b c:cn}(h:kh a b)(k:eD b c):eD a c:=by
 rcases qx.1 h with h|rfl;exact kT h k;exact k
def eD.jY {a b c:cn}(h:eD a b)(k:kh b c):eD a c:=by
 rcases qx.1 k with k|rfl;exact kT h k;exact h
def kh.trans {a b c:cn}(h:kh a b)(k:kh b c):kh a c:=by
 rcases qx.1 k with k|rfl;exact(h.rA k).le;exact h
def BT (a b:cn):kh a b\/eD b a:=by by_cases h:eD b a;exact .inr h;exact .inl h
def S0 (a:cn):kh [] a:=jz a
def eD.ne {a b:cn}(h:eD a b):a≠b:=λe=>by subst e;exact gC _ h
def DI {a b:cn}(h:kh a b)(k:kh b a):a=b:=by
 rcases qx.1 h with h|h;exact absurd h k;exact h
def J9 (a b:cn):Op.bytesLess a b=decide (eD a b):=by
 by_cases h:eD a b
 .rw[aDz h];exact h
 .rw[aDr h];simpa[eD]using h
def XF (a b:cn):(Op.bytesLess a b||(a==b))=decide (kh a b):=by
 rw[J9,aFV];simp[qx]
def ZB (a b:cn):(!(Op.bytesLess a b))=decide (kh b a):=by rw[aFV];simp[kh,eD]
@[simp] def zs (a b:cn)(st:St):rK .lss a b st=.ok (.bool (decide (eD a b))) st:=by rw[<-J9];rfl
@[simp] def OF (a b:cn)(st:St):rK .leq a b st=.ok (.bool (decide (kh a b))) st:=by rw[<-XF];rfl
@[simp] def rI (a b:cn)(st:St):rK .geq a b st=.ok (.bool (decide (kh b a))) st:=by rw[<-ZB];rfl
@[simp] def rJ (a b:cn)(st:St):rK .eql a b st=.ok (.bool (decide (a=b))) st:=by
  have:(a==b)=decide (a=b):=by rw[aFV];simp
  rw[<-this];rfl
@[simp] def lH (a b:cn)(st:St):rK .neq a b st=.ok (.bool (!decide (a=b))) st:=by
  have:(a==b)=decide (a=b):=by rw[aFV];simp
  rw[<-this];rfl
structure dh where
 key:cn
 value:List UInt8
 dR:Nat
 size:Nat
deriving DecidableEq
structure bg where
 leaf:Bool
 cells:List dh
 kids:List Nat
deriving DecidableEq
def ik (leaf:Bool)(c:dh):List UInt8:=
 uv c.key.length++(c.key++(if leaf=true then (if c.dR=0 then uv 0++(uv c.value.length++c.value)else uv c.dR++uv c.size)else []))
def cR (leaf:Bool)(l:List dh):List UInt8:=(l.map (ik leaf)).flatten
def eK (l:List Nat):List UInt8:=(l.map uv).flatten
def mD (n:bg):List UInt8:=uv (if n.leaf=true then 1 else 0)++(uv n.cells.length++(cR n.leaf n.cells++(if n.leaf=true then []else eK n.kids)))
def bg.size (n:bg):Nat:=(mD n).length
abbrev qt:Nat:=2147483647
structure dh.ok (leaf:Bool)(c:dh):Prop where
 key:c.key.length<=48
 inner:leaf=false->c.value=[]/\c.dR=0/\c.size=0
 short:leaf=true->c.dR=0->c.size=0/\c.value.length<=64
 far:leaf=true->c.dR≠0->c.value=[]/\c.dR<=qt/\1<=c.size/\c.size<=qt
def iC (l:List dh):Prop:=l.Pairwise λa b=>eD a.key b.key
structure bg.ok (n:bg):Prop where
 cell:∀c∈n.cells,c.ok n.leaf
 sorted:iC n.cells
 jA:n.kids.length=if n.leaf=true then 0 else n.cells.length+1
 BV:∀k∈n.kids,k<=qt
def yO (n:Nat):1<=(uv n).length:=by by_cases hu:127<n;rw[iB hu];simp;rw[jq pX];simp
def eJ {n:Nat}(h:n<=127):(uv n).length=1:=by rw[jq h];rfl
def pY {n:Nat}(h:n<=16383):(uv n).length<=2:=by
 by_cases hu:127<n
 .rw[iB hu,aDT,eJ pX];omega
 .rw[eJ pX];omega
def vj {m n:Nat}(h:m<=n):(uv m).length<=(uv n).length:=by
 induction n using Nat.strongRecOn generalizing m with
 |_ n ih=>
  by_cases hm:127<m
  .have hn:127<n:=by omega
   rw[iB hm,iB hn,aDT,aDT];have:= @ih (n/128) pX (m/128) (Nat.div_le_div_right h);omega
  .rw[eJ pX];exact yO n
def iU {leaf:Bool}{c:dh}(h:c.ok leaf):1<=(ik leaf c).length/\(ik leaf c).length<=115/\(leaf=false->(ik leaf c).length<=49):=by
 have h1:(uv c.key.length).length=1:=eJ (by have:=h.key;omega);have h2:=h.key;cases leaf with
 |false=>unfold ik;simp;omega
 |true=>
  unfold ik
  by_cases h0:c.dR=0
  .obtain⟨h3,h4⟩:=h.short rfl h0;have h5:(uv c.value.length).length=1:=eJ pX;have h6:(uv 0).length=1:=eJ pX;simp[h0];omega
  .obtain⟨h3,h4,h5,h6⟩:=h.far rfl h0;have h7:=(jS c.dR h4).2;have h8:=(jS c.size h6).2;simp[h0];omega
def ep (leaf:Bool)(a b:List dh):cR leaf (a++b)=cR leaf a++cR leaf b:=by simp[cR]
def fx (leaf:Bool)(c:dh)(b:List dh):cR leaf (c::b)=ik leaf c++cR leaf b:=by simp[cR]
def iG (a b:List Nat):eK (a++b)=eK a++eK b:=acd
def nX (k:Nat)(b:List Nat):eK (k::b)=uv k++eK b:=acd
def eT (leaf:Bool)(l:List dh):l.length<=(cR leaf l).length:=by
 induction l with
 |nil=>simp
 |cons c l ih=>
  rw[fx,aDw,aDT];have:=yO c.key.length;have:1<=(ik leaf c).length:=by unfold ik;rw[aDw];omega
  omega
def cc (n:bg):n.size=1+((uv n.cells.length).length+((cR n.leaf n.cells).length+(if n.leaf=true then 0 else (eK n.kids).length))):=by
 unfold bg.size mD;have:(uv (if n.leaf=true then 1 else 0)).length=1:=eJ aaE;rw[aDw,aDw,aDw,this]
 split<;>simp
def bg.find (n:bg)(key:cn):Nat:=n.cells.findIdx λc=>decide (kh key c.key)
def cD (n:bg)(i:Nat):bg×cn×bg:=
 if n.leaf=true then (⟨true,n.cells.take i,[]⟩,(n.cells[i]?.map (·.key)).getD [],⟨true,n.cells.drop i,[]⟩)
 else (⟨false,n.cells.take i,n.kids.take (i+1)⟩,(n.cells[i]?.map (·.key)).getD [],⟨false,n.cells.drop (i+1),n.kids.drop (i+1)⟩)
def gG (n:bg)(i:Nat):Nat:=((cD n i).1.size-(cD n i).2.2.size)+((cD n i).2.2.size-(cD n i).1.size)
def sF (n:bg):Nat->Nat->Nat->Nat
 |0,_,b=>b
 |f+1,i,b=>sF n f (i+1) (if gG n i<gG n b then i else b)
def cr (n:bg):Nat:=if n.leaf=true then 1 else 0
def gY (n:bg):Nat:=sF n (n.cells.length-(cr n+1)) (cr n+1) (cr n)
def xt (n:bg):bg×cn×bg:=cD n (gY n)
def fN (k:cn):dh:=⟨k,[],0,0⟩
def dB (a:bg)(sep:cn)(b:bg):bg:=if a.leaf=true then ⟨true,a.cells++b.cells,[]⟩else ⟨false,a.cells++(fN sep::b.cells),a.kids++b.kids⟩
def Jt (n:bg)(f:Nat):∀(i b:Nat),b<i->(sF n f i b=b\/(i<=sF n f i b/\sF n f i b<i+f))/\gG n (sF n f i b)<=gG n b/\∀j,i<=j->j<i+f->gG n (sF n f i b)<=gG n j:=by
 induction f with
 |zero=>intro i b hb;exact⟨.inl rfl,aDt _,λj h1 h2=>pX⟩
 |succ f ih=>
  intro i b hb;simp only[sF];obtain⟨h1,h2,h3⟩:=ih (i+1) (if gG n i<gG n b then i else b) aaE;generalize hr:sF n f (i+1) (if gG n i<gG n b then i else b)=r at*
  by_cases hc:gG n i<gG n b
  .rw[aDy hc]at h1 h2;refine⟨.inr pX,pX,λj h4 h5=>?_⟩;rcases aFG h4 with rfl|h6
   .exact h2
   .exact h3 j h6 pX
  .rw[aDv hc]at h1 h2;refine⟨pX,h2,λj h4 h5=>?_⟩;rcases aFG h4 with rfl|h6
   .omega
   .exact h3 j h6 pX
def yb (n:bg)(h:cr n<n.cells.length):cr n<=gY n/\gY n<n.cells.length/\∀j,cr n<=j->j<n.cells.length->gG n (gY n)<=gG n j:=by
 obtain⟨h1,h2,h3⟩:=Jt n (n.cells.length-(cr n+1)) (cr n+1) (cr n) (Nat.lt_succ_self _);unfold gY;refine⟨pX,pX,λj h4 h5=>?_⟩;rcases aFG h4 with rfl|h6
 .exact h2
 .exact h3 j h6 pX
section
variable {l:List dh}{α:Type}{n:bg}
def nG {leaf:Bool}(h:∀c∈l,c.ok leaf):(cR leaf l).length<=l.length*115:=by
 induction l with
 |nil=>simp[cR]
 |cons c l ih=>
  rw[fx,aDw,aDT];have:=(iU (h c rq)).2.1;have:=ih λc hc=>h c (by simp[hc]);omega
def pK {l:List Nat}(h:∀k∈l,k<=qt):(eK l).length<=l.length*5:=by
 induction l with
 |nil=>simp[eK]
 |cons k l ih=>
  rw[nX,aDw,aDT];have:=(jS k (h k rq)).2;have:=ih λc hc=>h c (by simp[hc]);omega
def yQ (l:List α)(i:Nat)(h:i<l.length):l.take (i+1)=l.take i++[l[i]]:=aDH h
def wg (l:List α)(i:Nat)(h:i<l.length):l.drop i=l[i]::l.drop (i+1):=aDN h
structure Ht (n:bg):Prop where
 up:∀i,cr n<=i->i+1<n.cells.length->(cD n (i+1)).1.size<=(cD n i).1.size+116
 down:∀i,cr n<=i->i+1<n.cells.length->(cD n i).2.2.size<=(cD n (i+1)).2.2.size+116
 sum:∀i,cr n<=i->i<n.cells.length->n.size<=(cD n i).1.size+(cD n i).2.2.size+49/\(cD n i).1.size+(cD n i).2.2.size<=n.size+4
 head:cr n<n.cells.length->(cD n (cr n)).1.size<=if n.leaf=true then 117 else 7
 last:∀i,cr n<=i->i+1=n.cells.length->(cD n i).2.2.size<=if n.leaf=true then 117 else 7
def QJ (h:n.ok)(hs:n.cells.length<=16000):Ht n:=by
 obtain⟨leaf,cells,kids⟩:=n;have hc:=h.cell;have hk:=h.jA;have Vz:=h.BV;simp only at hc hk Vz hs;have u2:∀i,i<=16383->1<=(uv i).length/\(uv i).length<=2:=λi hi=>⟨yO i,pY hi⟩;cases leaf with
 |true=>
  have e1:∀i,(cD ⟨true,cells,kids⟩ i).1=⟨true,cells.take i,[]⟩:=λi=>rfl;have e2:∀i,(cD ⟨true,cells,kids⟩ i).2.2=⟨true,cells.drop i,[]⟩:=λi=>rfl;have hf:cr ⟨true,cells,kids⟩=1:=rfl
  have X9:∀i,(cR true (cells.take i)).length+(cR true (cells.drop i)).length=(cR true cells).length:=λi=>by
   rw[<-aDw,<-ep,aEd]
  refine⟨λi h1 h2=>?_,λi h1 h2=>?_,λi h1 h2=>?_,λh1=>?_,λi h1 h2=>?_⟩
  .simp only at h2;rw[e1,e1,cc,cc];simp only[aDQ,aDF];rw[yQ cells i pX,ep,aDw];have h3:=(iU (hc _ (aDL (show i<cells.length from pX)))).2.1;have h4:(cR true [cells[i]' pX]).length=(ik true (cells[i]' pX)).length:=by simp[cR]
   have:=u2 (min (i+1) cells.length) pX;have:=u2 (min i cells.length) pX;omega
  .simp only at h2;rw[e2,e2,cc,cc];simp only[aDQ,aDO];rw[wg cells i pX,fx,aDw];have h3:=(iU (hc _ (aDL (show i<cells.length from pX)))).2.1;have:=u2 (cells.length-(i+1)) pX;have:=u2 (cells.length-i) pX;omega
  .simp only at h2;rw[e1,e2,cc,cc,cc];simp only[aDQ,aDO,aDF];have:=X9 i;have:=u2 (min i cells.length) pX;have:=u2 (cells.length-i) pX;have:=u2 cells.length pX;omega
  .simp only[hf]at h1;rw[hf,e1,cc];simp only[aDQ,aDF];have h5:(cells.take 1).length=1:=by rw[aDF];omega
   have h3:=nG (leaf:=true) (l:=cells.take 1) λc h=>hc c (aEg h);rw[h5]at h3;have:(uv (min 1 cells.length)).length=1:=eJ pX;omega
  .simp only[hf]at h1;simp only at h2;rw[e2,cc];simp only[aDQ,aDO];have h5:(cells.drop i).length=1:=by rw[aDO];omega
   have h3:=nG (leaf:=true) (l:=cells.drop i) λc h=>hc c (aEk h);rw[h5]at h3;have:(uv (cells.length-i)).length=1:=eJ pX;omega
 |false=>
  simp only[aDp,aDE]at hk;have e1:∀i,(cD ⟨false,cells,kids⟩ i).1=⟨false,cells.take i,kids.take (i+1)⟩:=λi=>rfl;have e2:∀i,(cD ⟨false,cells,kids⟩ i).2.2=⟨false,cells.drop (i+1),kids.drop (i+1)⟩:=λi=>rfl;have hf:cr ⟨false,cells,kids⟩=0:=rfl
  have X9:∀i (h:i<cells.length),(cR false (cells.take i)).length+((ik false cells[i]).length+(cR false (cells.drop (i+1))).length)=(cR false cells).length:=λi h=>by
   rw[<-aDw,<-fx,<-wg cells i h,<-aDw,<-ep,aEd]
  have aem:∀i,(eK (kids.take i)).length+(eK (kids.drop i)).length=(eK kids).length:=λi=>by
   rw[<-aDw,<-iG,aEd]
  have c49:∀i (h:i<cells.length),1<=(ik false cells[i]).length/\(ik false cells[i]).length<=49:=λi h=>by
   have:=iU (hc _ (aDL h));exact⟨this.1,this.2.2 rfl⟩
  refine⟨λi h1 h2=>?_,λi h1 h2=>?_,λi h1 h2=>?_,λh1=>?_,λi h1 h2=>?_⟩
  .simp only at h2;rw[e1,e1,cc,cc];simp only[aDp,aDE,aDF];rw[yQ cells i pX,ep,aDw,yQ kids (i+1) pX,iG,aDw];have h3:=c49 i pX;have h4:(cR false [cells[i]' pX]).length=(ik false (cells[i]' pX)).length:=by simp[cR]
   have h6:(eK [kids[i+1]' pX]).length=(uv (kids[i+1]' pX)).length:=acd
   have h7:=(jS _ (Vz _ (aDL (show i+1<kids.length from pX)))).2;have:=u2 (min (i+1) cells.length) pX;have:=u2 (min i cells.length) pX;omega
  .simp only at h2;rw[e2,e2,cc,cc];simp only[aDp,aDE,aDO];rw[wg cells (i+1) pX,fx,aDw,wg kids (i+1) pX,nX,aDw];have h3:=c49 (i+1) pX;have h7:=(jS _ (Vz _ (aDL (show i+1<kids.length from pX)))).2;have:=u2 (cells.length-(i+1+1)) pX;have:=u2 (cells.length-(i+1)) pX;omega
  .simp only at h2;rw[e1,e2,cc,cc,cc];simp only[aDp,aDE,aDO,aDF];have:=X9 i h2;have:=aem (i+1);have:=c49 i h2;have:=u2 (min i cells.length) pX;have:=u2 (cells.length-(i+1)) pX;have:=u2 cells.length pX;omega
  .rw[hf,e1,cc];simp only[aDp,aDE,aDF];have h3:=pK (l:=kids.take (0+1)) λc h=>Vz c (aEg h);have h5:(kids.take (0+1)).length=1:=by rw[aDF];omega
   rw[h5]at h3;have:(uv 0).length=1:=eJ pX;simp only[aDx]at h3;simp[cR];omega
  .simp only at h2;rw[e2,cc];simp only[aDp,aDE,aDO];have h3:=pK (l:=kids.drop (i+1)) λc h=>Vz c (aEk h);have h5:(kids.drop (i+1)).length=1:=by rw[aDO];omega
   rw[h5]at h3;have:(uv (cells.length-(i+1))).length=1:=eJ pX;have:cells.drop (i+1)=[]:=aEa pX;rw[this];simp[cR];omega
def QI (h:Ht n)(hf:cr n<n.cells.length)(h1:513<=n.size):∃j,cr n<=j/\j<n.cells.length/\gG n j<=232:=by
 have key:∀k,cr n+k<n.cells.length->(cD n (cr n+k)).1.size<=(cD n (cr n+k)).2.2.size\/∃j,cr n<=j/\j<n.cells.length/\gG n j<=232:=by
  intro k
  induction k with
  |zero=>
   intro hk;have:=h.head hf;have:(if n.leaf=true then 117 else 7)<=117:=aaE
   have:=(h.sum (cr n) (aDt _) hf).1;left;simp only[aEb];omega
  |succ k ih=>
   intro hk;rcases ih (by omega)with h2|h2
   .by_cases h3:(cD n (cr n+(k+1))).1.size<=(cD n (cr n+(k+1))).2.2.size
    .exact .inl h3
    .right;refine⟨cr n+(k+1),pX,hk,?_⟩;have a1:=h.up (cr n+k) pX pX;have a2:=h.down (cr n+k) pX pX;have e:cr n+(k+1)=cr n+k+1:=by omega
     rw[e]at h3⊢;unfold gG;omega
   .exact .inr h2
 rcases key (n.cells.length-1-cr n) (by omega)with h2|h2
 .have e:cr n+(n.cells.length-1-cr n)=n.cells.length-1:=by omega
  rw[e]at h2;have:=h.last (n.cells.length-1) pX pX;have:(if n.leaf=true then 117 else 7)<=117:=aaE
  have:=(h.sum (n.cells.length-1) pX pX).1;omega
 .exact h2
def qa (h:iC l)(i:Nat):iC (l.take i):=h.sublist (List.take_sublist _ _)
def qb (h:iC l)(i:Nat):iC (l.drop i):=h.sublist (List.drop_sublist _ _)
structure AE (n a b:bg)(i:Nat)(s:cn):Prop where
 lt:i<n.cells.length
 Xv:a.ok
 okB:b.ok
 szA:a.size<=512
 szB:b.size<=512
 neA:a.cells≠[]
 neB:b.cells≠[]
 key:s=(n.cells[i]'lt).key
 eqs:(n.leaf=true/\a=⟨true,n.cells.take i,[]⟩/\b=⟨true,n.cells.drop i,[]⟩)\/(n.leaf=false/\a=⟨false,n.cells.take i,n.kids.take (i+1)⟩/\b=⟨false,n.cells.drop (i+1),n.kids.drop (i+1)⟩)
def QH (h:n.ok)(h1:512<n.size)(h2:n.size<=760):∃i,i=gY n/\AE n (xt n).1 (xt n).2.2 i (xt n).2.1:=by
 have hlen:n.cells.length<=760:=by
  have:=eT n.leaf n.cells;rw[cc]at h2;omega
 have hF:=QJ h pX
 have DU:cr n<n.cells.length:=by
  have a1:=nG (leaf:=n.leaf) (l:=n.cells) h.cell;have a2:=pK (l:=n.kids) h.BV;have a3:=h.jA;have:(uv n.cells.length).length<=2:=pY pX;rw[cc]at h1;unfold cr;cases hl:n.leaf with
  |true=>rw[hl]at h1 a1;simp only[aDQ]at h1⊢;omega
  |false=>rw[hl]at h1 a1 a3;simp only[aDp,aDE]at h1 a3⊢;omega
 obtain⟨b1,b2,b3⟩:=yb n DU;obtain⟨j,j1,j2,j3⟩:=QI hF DU pX;have hb:=b3 j j1 j2;obtain⟨s1,s2⟩:=hF.sum (gY n) b1 b2;have hu:(cD n (gY n)).1.size<=(cD n (gY n)).2.2.size+232/\(cD n (gY n)).2.2.size<=(cD n (gY n)).1.size+232:=by unfold gG at hb j3;omega
 have amZ:cr n<gY n\/n.leaf=true:=by
  rcases aFG b1 with e|e
  .have:=hF.head DU;rw[<-e]at hu s1 s2;cases hl:n.leaf with
   |true=>exact .inr rfl
   |false=>rw[hl,aDv wI]at this;omega
  .exact .inl e
 have Ty:gY n+1<n.cells.length\/n.leaf=true:=by
  rcases aFG (show gY n+1<=n.cells.length from b2)with e|e
  .have:=hF.last (gY n) b1 e;cases hl:n.leaf with
   |true=>exact .inr rfl
   |false=>rw[hl,aDv wI]at this;omega
  .exact .inl e
 refine⟨gY n,rfl,?_⟩;unfold xt;generalize gY n=i at*;obtain⟨leaf,cells,kids⟩:=n;cases leaf with
 |true=>
  have Gx:1<=i:=b1;simp only at b2;refine⟨b2,⟨λc hc=>h.cell c (aEg hc),qa h.sorted _,rfl,λk hk=>by simp[cD]at hk⟩,⟨λc hc=>h.cell c (aEk hc),qb h.sorted _,rfl,λk hk=>by simp[cD]at hk⟩,pX,pX,?_,?_,?_,.inl ⟨rfl,rfl,rfl⟩⟩
  .intro e;have:=congrArg List.length e;simp only[cD,aDQ,aDF,aEO]at this;omega
  .intro e;have:=congrArg List.length e;simp only[cD,aDQ,aDO,aEO]at this;omega
  .simp[cD,aDu b2]
 |false=>
  have Gx:cr ⟨false,cells,kids⟩<i:=by rcases amZ with h|h;exact h;cases h
  have Gx:0<i:=Gx;have xW:i+1<cells.length:=by rcases Ty with h|h;exact h;cases h
  have hk:kids.length=cells.length+1:=h.jA;refine⟨b2,⟨λc hc=>h.cell c (aEg hc),qa h.sorted _,?_,λk hk=>h.BV k (aEg hk)⟩,⟨λc hc=>h.cell c (aEk hc),qb h.sorted _,?_,λk hk=>h.BV k (aEk hk)⟩,pX,pX,?_,?_,?_,.inr ⟨rfl,rfl,rfl⟩⟩
  .simp[cD];omega
  .simp[cD];omega
  .intro e;have:=congrArg List.length e;simp only[cD,aDp,aDE,aDF,aEO]at this;omega
  .intro e;have:=congrArg List.length e;simp only[cD,aDp,aDE,aDO,aEO]at this;omega
  .simp[cD,aDu b2]
end
section
variable {ks:List Nat}{ss:List cn}{ps:List Nat}{k:Nat}{s:cn}{k1 k2:List Nat}{s1 s2:List cn}{kH:cn}
inductive PC where
 |node (n:bg)
 |dR (next:Nat) (data:List UInt8)
 |blank
structure GM where
 aE:Nat
 used:Nat
 root:Nat
 fr:List Nat
 cont:Nat->PC
def GM.bS (G:GM)(n:Nat):Prop:=0<n/\n<G.used/\n∉G.fr
structure uX (G:GM):Prop where
 one:1<=G.used
 iv:G.used<=G.aE
 size:G.aE<=65536
 nd:G.fr.Nodup
 fr:∀n∈G.fr,0<n/\n<G.used
def GM.cP (G:GM):Nat:=G.aE-G.used+G.fr.length
def GM.put (G:GM)(n:Nat)(x:PC):GM:={G with cont:=λq=>if q=n then x else G.cont q}
def GM.dV (G:GM):Nat:=match G.fr with|[]=>G.used|n::_=>n
def GM.alloc (G:GM):GM:=match G.fr with
 |[]=>{G with used:=G.used+1,cont:=λq=>if q=G.used then .blank else G.cont q}
 |n::r=>{G with fr:=r,cont:=λq=>if q=n then .blank else G.cont q}
def GM.drop (G:GM)(n:Nat):GM:={G with fr:=n::G.fr}
def GM.gO (G:GM)(n:Nat):GM:={G with root:=n}
def zl (G:GM)(n:Nat)(x:PC)(q:Nat):(G.put n x).cont q=if q=n then x else G.cont q:=rfl
def mz (G:GM)(n:Nat)(x:PC):(G.put n x).cont n=x:=by simp[zl]
def Ip (G:GM)(n:Nat)(x:PC)(q:Nat)(h:q≠n):(G.put n x).cont q=G.cont q:=by simp[zl,h]
@[simp] def zj (G:GM)(n:Nat)(x:PC):(G.put n x).cP=G.cP:=rfl
def uX.put {G:GM}(h:uX G)(n:Nat)(x:PC):uX (G.put n x):=⟨h.one,h.iv,h.size,h.nd,h.fr⟩
def uX.gO {G:GM}(h:uX G)(n:Nat):uX (G.gO n):=⟨h.one,h.iv,h.size,h.nd,h.fr⟩
structure KU (G:GM):Prop where
 ok:uX G.alloc
 not:¬G.bS G.dV
 bS:∀q,G.alloc.bS q↔G.bS q\/q=G.dV
 cont:∀q,q≠G.dV->G.alloc.cont q=G.cont q
 root:G.alloc.root=G.root
 free:G.alloc.cP+1=G.cP
 aE:G.alloc.aE=G.aE
 pos:0<G.dV
def tB {G:GM}(h:uX G)(hf:0<G.cP):KU G:=by
 cases iw:G.fr with
 |nil=>
  have e1:G.alloc={G with used:=G.used+1,cont:=λq=>if q=G.used then .blank else G.cont q}:=by unfold GM.alloc;rw[iw]
  have e2:G.dV=G.used:=by unfold GM.dV;rw[iw]
  have h1:=h.one;unfold GM.cP at hf;rw[iw]at hf;simp at hf;refine⟨?_,?_,?_,?_,?_,?_,?_,?_⟩
  .rw[e1];exact⟨rq,by show G.used+1<=G.aE;omega,h.size,h.nd,λn hn=>by have:=h.fr n hn;show _/\n<G.used+1;omega⟩
  .rw[e2];intro⟨_,h2,_⟩;omega
  .intro q;rw[e1,e2];unfold GM.bS;simp only[iw];simp;omega
  .intro q hq;rw[e1];rw[e2]at hq;simp[hq]
  .rw[e1]
  .rw[e1];unfold GM.cP;simp[iw];omega
  .rw[e1]
  .rw[e2];omega
 |cons n r=>
  have e1:G.alloc={G with fr:=r,cont:=λq=>if q=n then .blank else G.cont q}:=by unfold GM.alloc;rw[iw]
  have e2:G.dV=n:=by unfold GM.dV;rw[iw]
  have je:=h.nd;rw[iw,aDG]at je;have hn:=h.fr n (by rw[iw];simp);refine⟨?_,?_,?_,?_,?_,?_,?_,?_⟩
  .rw[e1];exact⟨h.one,h.iv,h.size,je.2,λm hm=>h.fr m (by rw[iw];simp[show m∈r from hm])⟩
  .rw[e2];intro⟨_,_,h2⟩;rw[iw]at h2;simp at h2
  .intro q;rw[e1,e2];unfold GM.bS;simp only[iw,aDs,aEM];constructor
   .rintro⟨a,b,c⟩
    by_cases hq:q=n
    .exact .inr hq
    .exact .inl ⟨a,b,hq,c⟩
   .rintro(⟨a,b,_,c⟩|rfl)
    .exact⟨a,b,c⟩
    .exact⟨hn.1,hn.2,je.1⟩
  .intro q hq;rw[e1];rw[e2]at hq;simp[hq]
  .rw[e1]
  .rw[e1];unfold GM.cP;simp[iw];omega
  .rw[e1]
  .rw[e2];exact hn.1
structure UG (G:GM)(n:Nat):Prop where
 ok:uX (G.drop n)
 bS:∀q,(G.drop n).bS q↔G.bS q/\q≠n
 free:(G.drop n).cP=G.cP+1
def tn {G:GM}(h:uX G){n:Nat}(hn:G.bS n):UG G n:=by
 refine⟨⟨h.one,h.iv,h.size,?_,?_⟩,?_,?_⟩
 .exact aDG.2 ⟨hn.2.2,h.nd⟩
 .intro q hq;rcases aDs.1 hq with rfl|hq
  .exact⟨hn.1,hn.2.1⟩
  .exact h.fr q hq
 .intro q;show(0<q/\q<G.used/\q∉n::G.fr)↔_;unfold GM.bS;simp only[aDs,aEM];constructor
  .rintro⟨a,b,c,d⟩;exact⟨⟨a,b,d⟩,c⟩
  .rintro⟨⟨a,b,d⟩,c⟩;exact⟨a,b,c,d⟩
 .show G.aE-G.used+(n::G.fr).length=_;unfold GM.cP;simp;omega
abbrev bt:=cn×List UInt8
def oV (G:GM):List Nat->Nat->List UInt8->Prop
 |[],page,v=>page=0/\v=[]
 |p::ps,page,v=>page=p/\v≠[]/\G.bS p/\∃next,G.cont p=.dR next (v.take 480)/\next<=qt/\oV G ps next (v.drop 480)
def Cw (G:GM)(c:dh)(v:List UInt8)(ps:List Nat):Prop:=
 (c.dR=0/\v=c.value/\ps=[])\/(c.dR≠0/\c.size=v.length/\64<v.length/\v.length<=8192/\oV G ps c.dR v)
def eU (G:GM):List dh->List bt->List Nat->Prop
 |[],L,ps=>L=[]/\ps=[]
 |c::cs,L,ps=>∃v p1 L2 p2,Cw G c v p1/\eU G cs L2 p2/\L=(c.key,v)::L2/\ps=p1++p2
abbrev sI:=Nat->cn->Option cn->List bt->List Nat->Prop
def bZ (S:sI):List Nat->List cn->cn->Option cn->List bt->List Nat->Prop
 |[k],[],lo,hi,L,ps=>S k lo hi L ps
 |k::ks,s::ss,lo,hi,L,ps=>∃L1 p1 L2 p2,S k lo (some s) L1 p1/\bZ S ks ss s hi L2 p2/\L=L1++L2/\ps=p1++p2
 |_,_,_,_,_,_=>False
def DD (k:cn)(hi:Option cn):Prop:=match hi with|none=>True|some h=>eD k h
def bg.fh (n:bg):List cn:=n.cells.map (·.key)
def FT (G:GM)(n:bg)(lo:cn)(hi:Option cn)(L:List bt)(ps:List Nat):Prop:=n.leaf=true/\DD lo hi/\eU G n.cells L ps/\∀c∈n.cells,kh lo c.key/\DD c.key hi
def O8 (S:sI)(n:bg)(lo:cn)(hi:Option cn)(L:List bt)(ps:List Nat):Prop:=n.leaf=false/\bZ S n.kids n.fh lo hi L ps
structure nf (G:GM)(page:Nat)(n:bg):Prop where
 bS:G.bS page
 cont:G.cont page=.node n
 ok:n.ok
 size:n.size<=512
 full:n.leaf=true\/n.cells≠[]
def AtP (G:GM)(C:bg->cn->Option cn->List bt->List Nat->Prop):sI:=λpage lo hi L ps=>∃n q,nf G page n/\C n lo hi L q/\ps=page::q
def ve (G:GM):Nat->bg->cn->Option cn->List bt->List Nat->Prop
 |0=>FT G
 |h+1=>O8 (AtP G (ve G h))
def Sub (G:GM)(h:Nat):sI:=AtP G (ve G h)
def pI {a b:cn}{hi:Option cn}(h:eD a b)(k:DD b hi):DD a hi:=by cases hi with|none=>trivial|some c=>exact kT h k
section
variable {S S':sI}
def bZ.mono {lo:cn}{hi:Option cn}{L:List bt}(h:bZ S ks ss lo hi L ps)(hs:∀k lo hi L q,(∀x∈q,x∈ps)->S k lo hi L q->S' k lo hi L q):bZ S' ks ss lo hi L ps:=by
 induction ks generalizing ss lo L ps with
 |nil=>cases ss<;>exact h.elim
 |cons k ks ih=>
  cases ss with
  |nil=>cases ks with
   |nil=>exact hs _ _ _ _ _ (λx hx=>hx) h
   |cons k2 ks=>exact h.elim
  |cons s ss=>
   obtain⟨L1,p1,L2,p2,h1,h2,rfl,rfl⟩:∃L1 p1 L2 p2,S k lo (some s) L1 p1/\bZ S ks ss s hi L2 p2/\L=L1++L2/\ps=p1++p2:=by cases ks<;>exact h
   have:∃L1' p1' L2' p2',S' k lo (some s) L1' p1'/\bZ S' ks ss s hi L2' p2'/\L1++L2=L1'++L2'/\p1++p2=p1'++p2':=
    ⟨L1,p1,L2,p2,hs _ _ _ _ _ (λx hx=>WH) h1,ih h2 λk lo hi L q hq=>hs k lo hi L q λx hx=>WG,rfl,rfl⟩
   cases ks<;>exact this
def bZ.cons {lo:cn}{hi:Option cn}{L:List bt}:bZ S (k::ks) (s::ss) lo hi L ps↔∃L1 p1 L2 p2,S k lo (some s) L1 p1/\bZ S ks ss s hi L2 p2/\L=L1++L2/\ps=p1++p2:=by cases ks<;>exact Iff.rfl
def bZ.one {lo:cn}{hi:Option cn}{L:List bt}:bZ S (k::ks) [] lo hi L ps↔ks=[]/\S k lo hi L ps:=by
 cases ks with
 |nil=>simp[bZ]
 |cons k2 ks=>simp[bZ]
def bZ.len {lo:cn}{hi:Option cn}{L:List bt}(h:bZ S ks ss lo hi L ps):ks.length=ss.length+1:=by
 induction ks generalizing ss lo L ps with
 |nil=>cases ss<;>exact h.elim
 |cons k ks ih=>
  cases ss with
  |nil=>rw[bZ.one]at h;rw[h.1];rfl
  |cons s ss=>rw[bZ.cons]at h;obtain⟨_,_,_,_,_,h2,_,_⟩:=h;simp[ih h2]
def AD (S:sI):List Nat->List cn->cn->cn->List bt->List Nat->Prop
 |[],[],lo,kH,L,ps=>lo=kH/\L=[]/\ps=[]
 |k::ks,s::ss,lo,kH,L,ps=>∃L1 p1 L2 p2,S k lo (some s) L1 p1/\AD S ks ss s kH L2 p2/\L=L1++L2/\ps=p1++p2
 |_,_,_,_,_,_=>False
def Nh (S:sI):List Nat->List cn->Option cn->Option cn->List bt->List Nat->Prop
 |[],[],kH,hi,L,ps=>kH=hi/\L=[]/\ps=[]
 |k::ks,s::ss,kH,hi,L,ps=>kH=some s/\bZ S (k::ks) ss s hi L ps
 |_,_,_,_,_,_=>False
def bZ.split {lo:cn}{hi:Option cn}{L:List bt}(he:k1.length=s1.length):bZ S (k1++k2) (s1++s2) lo hi L ps↔∃kH L1 p1 L2 p2,AD S k1 s1 lo kH L1 p1/\bZ S k2 s2 kH hi L2 p2/\L=L1++L2/\ps=p1++p2:=by
 induction k1 generalizing s1 lo L ps with
 |nil=>
  cases s1 with
  |nil=>
   constructor
   .intro h;exact⟨lo,[],[],L,ps,⟨rfl,rfl,rfl⟩,h,rfl,rfl⟩
   .rintro⟨kH,L1,p1,L2,p2,⟨rfl,rfl,rfl⟩,h,rfl,rfl⟩;exact h
  |cons s s1=>cases he
 |cons k k1 ih=>
  cases s1 with
  |nil=>cases he
  |cons s s1=>
   have M9:k1.length=s1.length:=aar
   rw[aEp,aEp,bZ.cons];constructor
   .rintro⟨L1,p1,L2,p2,h1,h2,rfl,rfl⟩;obtain⟨kH,L3,p3,L4,p4,h3,h4,rfl,rfl⟩:=(ih M9).1 h2;exact⟨kH,L1++L3,p1++p3,L4,p4,⟨L1,p1,L3,p3,h1,h3,rfl,rfl⟩,h4,rq,rq⟩
   .rintro⟨kH,_,_,L4,p4,⟨L1,p1,L3,p3,h1,h3,rfl,rfl⟩,h4,rfl,rfl⟩;exact⟨L1,p1,L3++L4,p3++p4,h1,(ih M9).2 ⟨kH,L3,p3,L4,p4,h3,h4,rfl,rfl⟩,rq,rq⟩
def bZ.focus {lo:cn}{hi:Option cn}{L:List bt}:bZ S (k::k2) s2 lo hi L ps↔∃kH L1 p1 L2 p2,S k lo kH L1 p1/\Nh S k2 s2 kH hi L2 p2/\L=L1++L2/\ps=p1++p2:=by
 cases s2 with
 |nil=>
  rw[bZ.one];constructor
  .rintro⟨rfl,h⟩;exact⟨hi,L,ps,[],[],h,⟨rfl,rfl,rfl⟩,rq,rq⟩
  .rintro⟨kH,L1,p1,L2,p2,h1,h2,rfl,rfl⟩;cases k2 with
   |nil=>obtain⟨rfl,rfl,rfl⟩:=h2;exact⟨rfl,Wx⟩
   |cons k3 k2=>exact h2.elim
 |cons s s2=>
  rw[bZ.cons];constructor
  .rintro⟨L1,p1,L2,p2,h1,h2,rfl,rfl⟩;cases k2 with
   |nil=>exact absurd h2.len rq
   |cons k3 k2=>exact⟨some s,L1,p1,L2,p2,h1,⟨rfl,h2⟩,rfl,rfl⟩
  .rintro⟨kH,L1,p1,L2,p2,h1,h2,rfl,rfl⟩;cases k2 with
   |nil=>exact h2.elim
   |cons k3 k2=>obtain⟨rfl,h3⟩:=h2;exact⟨L1,p1,L2,p2,h1,h3,rfl,rfl⟩
def AD.snoc {lo:cn}{L:List bt}:AD S ks (ss++[s]) lo kH L ps↔kH=s/\bZ S ks ss lo (some s) L ps:=by
 induction ks generalizing ss lo L ps with
 |nil=>
  constructor
  .intro h;cases ss<;>exact h.elim
  .rintro⟨_,h⟩;cases ss<;>exact h.elim
 |cons k ks ih=>
  cases ss with
  |nil=>
   rw[bZ.one];constructor
   .rintro⟨L1,p1,L2,p2,h1,h2,rfl,rfl⟩;cases ks with
    |nil=>obtain⟨rfl,rfl,rfl⟩:=h2;exact⟨rfl,rfl,Wx⟩
    |cons k2 ks=>exact h2.elim
   .rintro⟨rfl,rfl,h⟩;exact⟨L,ps,[],[],h,⟨rfl,rfl,rfl⟩,rq,rq⟩
  |cons s2 ss=>
   rw[aEp,bZ.cons];constructor
   .rintro⟨L1,p1,L2,p2,h1,h2,rfl,rfl⟩;obtain⟨rfl,h3⟩:=ih.1 h2;exact⟨rfl,L1,p1,L2,p2,h1,h3,rfl,rfl⟩
   .rintro⟨rfl,L1,p1,L2,p2,h1,h2,rfl,rfl⟩;exact⟨L1,p1,L2,p2,h1,ih.2 ⟨rfl,h2⟩,rfl,rfl⟩
def AD.mono {lo:cn}{L:List bt}(h:AD S ks ss lo kH L ps)(hs:∀k lo hi L q,(∀x∈q,x∈ps)->S k lo hi L q->S' k lo hi L q):AD S' ks ss lo kH L ps:=by
 induction ks generalizing ss lo L ps with
 |nil=>cases ss<;>exact h
 |cons k ks ih=>
  cases ss with
  |nil=>exact h
  |cons s ss=>
   obtain⟨L1,p1,L2,p2,h1,h2,rfl,rfl⟩:=h;exact⟨L1,p1,L2,p2,hs _ _ _ _ _ (λx hx=>WH) h1,ih h2 λk lo hi L q hq=>hs k lo hi L q λx hx=>WG,rfl,rfl⟩
def Nh.mono {kH hi:Option cn}{L:List bt}(h:Nh S ks ss kH hi L ps)(hs:∀k lo hi L q,(∀x∈q,x∈ps)->S k lo hi L q->S' k lo hi L q):Nh S' ks ss kH hi L ps:=by
 cases ks with
 |nil=>cases ss<;>exact h
 |cons k ks=>
  cases ss with
  |nil=>exact h
  |cons s ss=>exact⟨h.1,h.2.mono hs⟩
def AD.len {lo:cn}{L:List bt}(h:AD S ks ss lo kH L ps):ks.length=ss.length:=by
 induction ks generalizing ss lo L ps with
 |nil=>cases ss with|nil=>rfl|cons s ss=>exact h.elim
 |cons k ks ih=>
  cases ss with
  |nil=>exact h.elim
  |cons s ss=>obtain⟨L1,p1,L2,p2,h1,h2,rfl,rfl⟩:=h;simp[ih h2]
def AD.append {lo:cn}{L:List bt}(he:k1.length=s1.length):AD S (k1++k2) (s1++s2) lo kH L ps↔∃m L1 p1 L2 p2,AD S k1 s1 lo m L1 p1/\AD S k2 s2 m kH L2 p2/\L=L1++L2/\ps=p1++p2:=by
 induction k1 generalizing s1 lo L ps with
 |nil=>
  cases s1 with
  |nil=>
   constructor
   .intro h;exact⟨lo,[],[],L,ps,⟨rfl,rfl,rfl⟩,h,rfl,rfl⟩
   .rintro⟨m,L1,p1,L2,p2,⟨rfl,rfl,rfl⟩,h,rfl,rfl⟩;exact h
  |cons s s1=>cases he
 |cons k k1 ih=>
  cases s1 with
  |nil=>cases he
  |cons s s1=>
   have M9:k1.length=s1.length:=aar
   constructor
   .rintro⟨L1,p1,L2,p2,h1,h2,rfl,rfl⟩;obtain⟨m,L3,p3,L4,p4,h3,h4,rfl,rfl⟩:=(ih M9).1 h2;exact⟨m,L1++L3,p1++p3,L4,p4,⟨L1,p1,L3,p3,h1,h3,rfl,rfl⟩,h4,rq,rq⟩
   .rintro⟨m,_,_,L4,p4,⟨L1,p1,L3,p3,h1,h3,rfl,rfl⟩,h4,rfl,rfl⟩;exact⟨L1,p1,L3++L4,p3++p4,h1,(ih M9).2 ⟨m,L3,p3,L4,p4,h3,h4,rfl,rfl⟩,rq,rq⟩
end
def Kept (G G':GM)(ps:List Nat):Prop:=∀q∈ps,(G.bS q->G'.bS q)/\G'.cont q=G.cont q
def Kept.sub {G G':GM}{qs:List Nat}(h:Kept G G' ps)(hs:∀x∈qs,x∈ps):Kept G G' qs:=λq hq=>h q (hs q hq)
def oV.kept {G G':GM}{page:Nat}{v:List UInt8}(h:oV G ps page v)(k:Kept G G' ps):oV G' ps page v:=by
 induction ps generalizing page v with
 |nil=>exact h
 |cons p ps ih=>
  obtain⟨rfl,h1,h2,next,h3,h4,h5⟩:=h;obtain⟨k1,k2⟩:=k page rq;exact⟨rfl,h1,k1 h2,next,by rw[k2];exact h3,h4,ih h5 (k.sub (by simp_all))⟩
def eU.kept {G G':GM}{cs:List dh}{L:List bt}(h:eU G cs L ps)(k:Kept G G' ps):eU G' cs L ps:=by
 induction cs generalizing L ps with
 |nil=>exact h
 |cons c cs ih=>
  obtain⟨v,p1,L2,p2,h1,h2,rfl,rfl⟩:=h;refine⟨v,p1,L2,p2,?_,ih h2 (k.sub (by simp_all)),rfl,rfl⟩;rcases h1 with h1|⟨a,b,c,d,e⟩
  .exact .inl h1
  .exact .inr ⟨a,b,c,d,e.kept (k.sub (by simp_all))⟩
def nf.kept {G G':GM}{page:Nat}{n:bg}(h:nf G page n)(k:Kept G G' [page]):nf G' page n:=by
 obtain⟨k1,k2⟩:=k page rq;exact⟨k1 h.bS,by rw[k2];exact h.cont,h.ok,h.size,h.full⟩
def ve.kept {G G':GM}:∀{h:Nat} {n:bg} {lo:cn} {hi:Option cn} {L:List bt} {ps:List Nat},ve G h n lo hi L ps->Kept G G' ps->ve G' h n lo hi L ps:=by
 intro h
 induction h with
 |zero=>rintro n lo hi L ps ⟨h1,h2,h3,h4⟩ k;exact⟨h1,h2,h3.kept k,h4⟩
 |succ h ih=>
  rintro n lo hi L ps ⟨h1,h2⟩ k;refine⟨h1,h2.mono λkk lo hi L q hq hS=>?_⟩;obtain⟨m,q',a,b,rfl⟩:=hS;exact⟨m,q',a.kept (k.sub λx hx=>hq x adj),ih b (k.sub λx hx=>hq x WH),rfl⟩
def Sub.kept {G G':GM}{h page:Nat}{lo:cn}{hi:Option cn}{L:List bt}(hs:Sub G h page lo hi L ps)(k:Kept G G' ps):Sub G' h page lo hi L ps:=by
 obtain⟨m,q',a,b,rfl⟩:=hs;exact⟨m,q',a.kept (k.sub λx hx=>adj),b.kept (k.sub λx hx=>WH),rfl⟩
end
section
variable {S:sI}{ks:List Nat}{ss:List cn}{L:List bt}{ps:List Nat}{G:GM}{cs:List dh}{h:Nat}
def jc (L:List bt):Prop:=L.Pairwise λa b=>eD a.1 b.1
structure Bp (lo:cn)(hi:Option cn)(L:List bt):Prop where
 lt:DD lo hi
 XY:∀x∈L,kh lo x.1/\DD x.1 hi
 sorted:jc L
def yT {L1 L2:List bt}(h1:jc L1)(h2:jc L2)(h:∀x∈L1,∀y∈L2,eD x.1 y.1):jc (L1++L2):=aFv.2 ⟨h1,h2,h⟩
def bZ.facts (hS:∀k lo hi L q,S k lo hi L q->Bp lo hi L){lo:cn}{hi:Option cn}(h:bZ S ks ss lo hi L ps):
 Bp lo hi L/\(∀s∈ss,eD lo s/\DD s hi)/\ss.Pairwise eD:=by
 induction ks generalizing ss lo L ps with
 |nil=>cases ss<;>exact h.elim
 |cons k ks ih=>
  cases ss with
  |nil=>rw[bZ.one]at h;exact⟨hS _ _ _ _ _ h.2,rq,rq⟩
  |cons s ss=>
   rw[bZ.cons]at h;obtain⟨L1,p1,L2,p2,h1,h2,rfl,rfl⟩:=h;have f1:=hS _ _ _ _ _ h1;obtain⟨f2,f3,f4⟩:=ih h2;have hlt:eD lo s:=f1.lt;have hsh:=f2.lt;refine⟨⟨pI hlt hsh,λx hx=>?_,yT f1.sorted f2.sorted λx hx y hy=>?_⟩,λt ht=>?_,?_⟩
   .rcases aDB.1 hx with hx|hx
    .obtain⟨a,b⟩:=f1.XY x hx;exact⟨a,pI b hsh⟩
    .obtain⟨a,b⟩:=f2.XY x hx;exact⟨(hlt.jY a).le,b⟩
   .have a:eD x.1 s:=(f1.XY x hx).2;exact a.jY (f2.XY y hy).1
   .rcases aDs.1 ht with rfl|ht
    .exact⟨hlt,hsh⟩
    .obtain⟨a,b⟩:=f3 t ht;exact⟨kT hlt a,b⟩
   .exact aFU.2 ⟨λt ht=>(f3 t ht).1,f4⟩
def AD.facts (hS:∀k lo hi L q,S k lo hi L q->Bp lo hi L){lo kH:cn}(h:AD S ks ss lo kH L ps):
 kh lo kH/\(∀x∈L,eD x.1 kH):=by
 induction ks generalizing ss lo L ps with
 |nil=>cases ss with
  |nil=>obtain⟨rfl,rfl,rfl⟩:=h;exact⟨zI _,rq⟩
  |cons s ss=>exact h.elim
 |cons k ks ih=>
  cases ss with
  |nil=>exact h.elim
  |cons s ss=>
   obtain⟨L1,p1,L2,p2,h1,h2,rfl,rfl⟩:=h;have f1:=hS _ _ _ _ _ h1;have hlt:eD lo s:=f1.lt;obtain⟨f2,f3⟩:=ih h2;refine⟨(hlt.jY f2).le,λx hx=>?_⟩;rcases aDB.1 hx with hx|hx
   .have a:eD x.1 s:=(f1.XY x hx).2;exact a.jY f2
   .exact f3 x hx
def leh (kH:Option cn)(k:cn):Prop:=match kH with|none=>False|some m=>kh m k
def Nh.facts (hS:∀k lo hi L q,S k lo hi L q->Bp lo hi L){kH hi:Option cn}(h:Nh S ks ss kH hi L ps):
 (∀x∈L,leh kH x.1)/\∀k,DD k kH->DD k hi:=by
 cases ks with
 |nil=>cases ss with
  |nil=>obtain⟨rfl,rfl,rfl⟩:=h;exact⟨rq,λk h=>h⟩
  |cons s ss=>exact h.elim
 |cons k ks=>
  cases ss with
  |nil=>exact h.elim
  |cons s ss=>
   obtain⟨rfl,h⟩:=h;obtain⟨f,_⟩:=h.facts hS;exact⟨λx hx=>(f.XY x hx).1,λk hk=>pI hk f.lt⟩
def eU.keys (h:eU G cs L ps):L.map (·.1)=cs.map (·.key):=by
 induction cs generalizing L ps with
 |nil=>obtain⟨rfl,rfl⟩:=h;rfl
 |cons c cs ih=>obtain⟨v,p1,L2,p2,h1,h2,rfl,rfl⟩:=h;simp[ih h2]
def eU.len (h:eU G cs L ps):L.length=cs.length:=by simpa using congrArg List.length h.keys
def FT.facts {n:bg}{lo:cn}{hi:Option cn}(h:FT G n lo hi L ps)(hn:iC n.cells):Bp lo hi L:=by
 obtain⟨h1,h2,h3,h4⟩:=h;have hk:=h3.keys;refine⟨h2,λx hx=>?_,?_⟩
 .have:x.1∈n.cells.map (·.key):=by rw[<-hk];exact aEA hx
  obtain⟨c,hc,e⟩:=aDR.1 this;rw[<-e];exact h4 c hc
 .have:(L.map (·.1)).Pairwise eD:=by rw[hk,aFx];exact hn
  rw[aFx]at this;exact this
def ve.facts :∀{h:Nat} {n:bg} {lo:cn} {hi:Option cn} {L:List bt} {ps:List Nat},ve G h n lo hi L ps->iC n.cells->Bp lo hi L:=by
 intro h
 induction h with
 |zero=>intro n lo hi L ps h1 hn;exact FT.facts h1 hn
 |succ h ih=>
  rintro n lo hi L ps ⟨_,h2⟩ hn;exact(h2.facts λk lo hi L q hS=>by obtain⟨m,q',a,b,rfl⟩:=hS;exact ih b a.ok.sorted).1
def Sub.facts {page:Nat}{lo:cn}{hi:Option cn}(hs:Sub G h page lo hi L ps):Bp lo hi L:=by
 obtain⟨m,q',a,b,rfl⟩:=hs;exact b.facts a.ok.sorted
def Sub.sr :∀k lo hi L q,Sub G h k lo hi L q->Bp lo hi L:=λ_ _ _ _ _ hS=>hS.facts
def bZ.aE {lo:cn}{hi:Option cn}(h:bZ S ks ss lo hi L ps)(P:Nat->Prop)(hS:∀k lo hi L q,S k lo hi L q->∀x∈q,P x):∀x∈ps,P x:=by
 induction ks generalizing ss lo L ps with
 |nil=>cases ss<;>exact h.elim
 |cons k ks ih=>
  cases ss with
  |nil=>rw[bZ.one]at h;exact hS _ _ _ _ _ h.2
  |cons s ss=>
   rw[bZ.cons]at h;obtain⟨L1,p1,L2,p2,h1,h2,rfl,rfl⟩:=h;intro x hx;rcases aDB.1 hx with hx|hx
   .exact hS _ _ _ _ _ h1 x hx
   .exact ih h2 x hx
def oV.aE {page:Nat}{v:List UInt8}(h:oV G ps page v):∀x∈ps,G.bS x:=by
 induction ps generalizing page v with
 |nil=>simp
 |cons p ps ih=>
  obtain⟨rfl,h1,h2,next,h3,h4,h5⟩:=h;intro x hx;rcases aDs.1 hx with rfl|hx
  .exact h2
  .exact ih h5 x hx
def eU.aE (h:eU G cs L ps):∀x∈ps,G.bS x:=by
 induction cs generalizing L ps with
 |nil=>obtain⟨rfl,rfl⟩:=h;simp
 |cons c cs ih=>
  obtain⟨v,p1,L2,p2,h1,h2,rfl,rfl⟩:=h;intro x hx;rcases aDB.1 hx with hx|hx
  .rcases h1 with⟨_,_,rfl⟩|⟨_,_,_,_,e⟩
   .cases hx
   .exact e.aE x hx
  .exact ih h2 x hx
def ve.aE :∀{h:Nat} {n:bg} {lo:cn} {hi:Option cn} {L:List bt} {ps:List Nat},ve G h n lo hi L ps->∀x∈ps,G.bS x:=by
 intro h
 induction h with
 |zero=>rintro n lo hi L ps ⟨_,_,h3,_⟩;exact h3.aE
 |succ h ih=>
  rintro n lo hi L ps ⟨_,h2⟩;refine h2.aE _ λk lo hi L q hS=>?_;obtain⟨m,q',a,b,rfl⟩:=hS;intro x hx;rcases aDs.1 hx with rfl|hx
  .exact a.bS
  .exact ih b x hx
def Sub.aE {page:Nat}{lo:cn}{hi:Option cn}(hs:Sub G h page lo hi L ps):∀x∈ps,G.bS x:=by
 obtain⟨m,q',a,b,rfl⟩:=hs;intro x hx;rcases aDs.1 hx with rfl|hx
 .exact a.bS
 .exact b.aE x hx
def bZ.count {w:Nat}(hS:∀k lo hi L q,S k lo hi L q->w<=q.length){lo:cn}{hi:Option cn}(h:bZ S ks ss lo hi L ps):ks.length*w<=ps.length:=by
 induction ks generalizing ss lo L ps with
 |nil=>cases ss<;>exact h.elim
 |cons k ks ih=>
  cases ss with
  |nil=>rw[bZ.one]at h;obtain⟨rfl,h⟩:=h;simpa using hS _ _ _ _ _ h
  |cons s ss=>
   rw[bZ.cons]at h;obtain⟨L1,p1,L2,p2,h1,h2,rfl,rfl⟩:=h;have:=hS _ _ _ _ _ h1;have:=ih h2;rw[aDT,aDw,aEz];omega
def Sub.count :∀{h page:Nat} {lo:cn} {hi:Option cn} {L:List bt} {ps:List Nat},Sub G h page lo hi L ps->2^h<=ps.length:=by
 intro h
 induction h with
 |zero=>rintro page lo hi L ps ⟨m,q',a,b,rfl⟩;simp
 |succ h ih=>
  rintro page lo hi L ps ⟨m,q',a,⟨b1,b2⟩,rfl⟩;have h1:=b2.count (w:=2^h) λk lo hi L q hS=>ih hS;have h2:=b2.len
  have h3:0<m.fh.length:=by
   rcases a.full with h|h
   .rw[b1]at h;cases h
   .unfold bg.fh;rw[aEt];exact aFg.2 h
  have h4:2*2^h<=m.kids.length*2^h:=aEj _ pX;rw[aFY,aDT];omega
def lI:∀(n:Nat) (l:List Nat),l.Nodup->(∀x∈l,x<n)->l.length<=n:=by
 intro n
 induction n with
 |zero=>intro l _ h;cases l with|nil=>simp|cons a l=>exact absurd (h a rq) pX
 |succ n ih=>
  intro l hn h
  by_cases hm:n∈l
  .have h1:=ih (l.erase n) (hn.erase n) λx hx=>by
    obtain⟨a,b⟩:=hn.mem_erase_iff.1 hx;have:=h x b;omega
   rw[List.length_erase_of_mem hm]at h1;omega
  .have:=ih l hn λx hx=>by
    have:=h x hx;have:x≠n:=λe=>hm (e▸hx);omega
   omega
def Ft (hn:ps.Nodup)(hu:∀x∈ps,G.bS x)(h1:1<=G.used):ps.length+1<=G.used:=by
 have:=lI G.used (0::ps) (aDG.2 ⟨λh=>by have:=(hu 0 h).1;omega,hn⟩) λx hx=>by
  rcases aDs.1 hx with rfl|hx
  .omega
  .exact(hu x hx).2.1
 simpa using this
def Sub.deep {page:Nat}{lo:cn}{hi:Option cn}(hs:Sub G h page lo hi L ps)(hn:ps.Nodup)(hG:uX G):h<=16:=by
 have h1:=hs.count;have h2:=Ft hn hs.aE hG.one;have h3:=hG.iv;have h4:=hG.size;rcases aEG 16 h with h5|h5
 .have:2^17<=2^h:=Nat.pow_le_pow_right pX h5;omega
 .exact h5
structure cV where
 page:Nat
 at_:Nat
 n:bg
def Ctx (G:GM):Nat->List cV->Nat->cn->Option cn->List bt->List bt->List Nat->Prop
 |_,[],page,lo,hi,Ll,Lr,ps=>page=G.root/\lo=[]/\hi=none/\Ll=[]/\Lr=[]/\ps=[]
 |h,s::l,page,lo,hi,Ll,Lr,ps=>∃lr ff yK yJ px La pa Lb pb,Ctx G (h+1) l s.page lr ff yK yJ px/\nf G s.page s.n/\s.n.leaf=false/\s.n.kids[s.at_]?=some page/\
  AD (Sub G h) (s.n.kids.take s.at_) (s.n.fh.take s.at_) lr lo La pa/\Nh (Sub G h) (s.n.kids.drop (s.at_+1)) (s.n.fh.drop s.at_) hi ff Lb pb/\Ll=yK++La/\Lr=Lb++yJ/\ps=s.page::(pa++(pb++px))
def zJ (kids:List Nat)(i:Nat)(page:Nat)(h:kids[i]?=some page):kids=kids.take i++page::kids.drop (i+1):=by
 obtain⟨hi,rfl⟩:=aDD.1 h
 conv=>lhs;rw[<-aEd i kids,aDN hi]
def Ctx.fill :∀{l:List cV} {h page:Nat} {lo:cn} {hi:Option cn} {Ll Lr:List bt} {ps:List Nat},Ctx G h l page lo hi Ll Lr ps->∀{L:List bt} {q:List Nat},Sub G h page lo hi L q->
 ∃px,px.Perm (q++ps)/\Sub G (h+l.length) G.root [] none (Ll++(L++Lr)) px:=by
 intro l
 induction l with
 |nil=>
  rintro h page lo hi Ll Lr ps ⟨rfl,rfl,rfl,rfl,rfl,rfl⟩ L q hs;exact⟨q,rq,aas⟩
 |cons s l ih=>
  rintro h page lo hi Ll Lr ps ⟨lr,ff,yK,yJ,px,La,pa,Lb,pb,h1,h2,h3,h4,h5,h6,rfl,rfl,rfl⟩ L q hs
  have hk:bZ (Sub G h) s.n.kids s.n.fh lr ff (La++(L++Lb)) (pa++(q++pb)):=by
   rw[zJ _ _ _ h4]
   conv=>arg 3;rw[<-aEd s.at_ s.n.fh]
   exact(bZ.split h5.len).2 ⟨lo,La,pa,L++Lb,q++pb,h5,bZ.focus.2 ⟨hi,L,q,Lb,pb,hs,h6,rfl,rfl⟩,rfl,rfl⟩
  obtain⟨ps2,e1,e2⟩:=ih h1 (L:=La++(L++Lb)) (q:=s.page::(pa++(q++pb))) ⟨s.n,_,h2,⟨h3,hk⟩,rfl⟩;refine⟨ps2,e1.trans ?_,?_⟩
  .refine(aFh.2 λx=>?_);simp only[aFp,aFB];omega
  .have e:h+(s::l).length=h+1+l.length:=by simp;omega
   rw[e]
   simpa using e2
def Ctx.kept {G':GM}(hr:G'.root=G.root):∀{l:List cV} {h page:Nat} {lo:cn} {hi:Option cn} {Ll Lr:List bt} {ps:List Nat},Ctx G h l page lo hi Ll Lr ps->Kept G G' ps->Ctx G' h l page lo hi Ll Lr ps:=by
 intro l
 induction l with
 |nil=>rintro h page lo hi Ll Lr ps ⟨h1,h2⟩ _;exact⟨by rw[hr];exact h1,h2⟩
 |cons s l ih=>
  rintro h page lo hi Ll Lr ps ⟨lr,ff,yK,yJ,px,La,pa,Lb,pb,h1,h2,h3,h4,h5,h6,rfl,rfl,rfl⟩ k
  exact⟨lr,ff,yK,yJ,px,La,pa,Lb,pb,ih h1 (k.sub (by simp_all)),h2.kept (k.sub (by simp_all)),h3,h4,h5.mono λ_ _ _ _ q hq hS=>hS.kept (k.sub λx hx=>WG),
   h6.mono λ_ _ _ _ q hq hS=>hS.kept (k.sub λx hx=>WG),rfl,rfl,rfl⟩
def Ctx.aE :∀{l:List cV} {h page:Nat} {lo:cn} {hi:Option cn} {Ll Lr:List bt} {ps:List Nat},Ctx G h l page lo hi Ll Lr ps->∀x∈ps,G.bS x:=by
 intro l
 induction l with
 |nil=>rintro h page lo hi Ll Lr ps ⟨_,_,_,_,_,rfl⟩;simp
 |cons s l ih=>
  rintro h page lo hi Ll Lr ps ⟨lr,ff,yK,yJ,px,La,pa,Lb,pb,h1,h2,h3,h4,h5,h6,rfl,rfl,rfl⟩ x hx
  have hL:∀{ks:List Nat} {ss:List cn} {lo kH:cn} {L:List bt} {p:List Nat},AD (Sub G h) ks ss lo kH L p->∀x∈p,G.bS x:=by
   intro ks
   induction ks with
   |nil=>intro ss lo kH L p hh;cases ss with
    |nil=>obtain⟨_,_,rfl⟩:=hh;simp
    |cons s ss=>exact hh.elim
   |cons k ks ih2=>
    intro ss lo kH L p hh;cases ss with
    |nil=>exact hh.elim
    |cons s ss=>
     obtain⟨L1,p1,L2,p2,a,b,rfl,rfl⟩:=hh;intro x hx;rcases aDB.1 hx with hx|hx
     .exact a.aE x hx
     .exact ih2 b x hx
  have hR:∀{ks:List Nat} {ss:List cn} {kH hi:Option cn} {L:List bt} {p:List Nat},Nh (Sub G h) ks ss kH hi L p->∀x∈p,G.bS x:=by
   intro ks ss kH hi L p hh;cases ks with
   |nil=>cases ss with
    |nil=>obtain⟨_,_,rfl⟩:=hh;simp
    |cons s ss=>exact hh.elim
   |cons k ks=>cases ss with
    |nil=>exact hh.elim
    |cons s ss=>exact hh.2.aE _ λ_ _ _ _ _ hS=>hS.aE
  simp only[aDs,aDB]at hx;rcases hx with rfl|hx|hx|hx
  .exact h2.bS
  .exact hL h5 x hx
  .exact hR h6 x hx
  .exact ih h1 x hx
def Ctx.ach :∀{l:List cV} {h page:Nat} {lo:cn} {hi:Option cn} {Ll Lr:List bt} {ps:List Nat},Ctx G h l page lo hi Ll Lr ps->(∀x∈Ll,eD x.1 lo)/\(∀x∈Lr,leh hi x.1):=by
 intro l
 induction l with
 |nil=>rintro h page lo hi Ll Lr ps ⟨_,_,_,rfl,rfl,_⟩;simp
 |cons s l ih=>
  rintro h page lo hi Ll Lr ps ⟨lr,ff,yK,yJ,px,La,pa,Lb,pb,h1,h2,h3,h4,h5,h6,rfl,rfl,rfl⟩;obtain⟨i1,i2⟩:=ih h1;obtain⟨a1,a2⟩:=h5.facts Sub.sr;obtain⟨b1,b2⟩:=h6.facts Sub.sr;refine⟨λx hx=>?_,λx hx=>?_⟩
  .rcases aDB.1 hx with hx|hx
   .exact(i1 x hx).jY a1
   .exact a2 x hx
  .rcases aDB.1 hx with hx|hx
   .exact b1 x hx
   .have h:=i2 x hx;cases ff with
    |none=>exact h.elim
    |some m'=>
     cases hi with
     |none=>exact absurd (b2 (m'++[0]) trivial) (λh=>by
      have:¬eD (m'++[0]) m':=by
       have:∀m:cn,¬eD (m++[0]) m:=λm=>by
        induction m with
        |nil=>exact jz _
        |cons a m ih=>rw[aEp,rV];rintro(h|⟨_,h⟩);exact UInt8.lt_irrefl a h;exact ih h
       exact this m'
      exact this h)
     |some m=>
      have hm:kh m m':=by
       rcases BT m m' with h|h
       .exact h
       .have:=b2 m' h;exact absurd this (gC _)
      exact hm.trans h
end
section
variable {G:GM}{L:List bt}{ps:List Nat}{i h:Nat}{n a:bg}{s:cn}{q:List Nat}{S:sI}{k2:List Nat}{s2:List cn}{L1 L2:List bt}{q1 q2:List Nat}
def eU.append {c1 c2:List dh}:eU G (c1++c2) L ps↔∃L1 p1 L2 p2,eU G c1 L1 p1/\eU G c2 L2 p2/\L=L1++L2/\ps=p1++p2:=by
 induction c1 generalizing L ps with
 |nil=>
  constructor
  .intro h;exact⟨[],[],L,ps,⟨rfl,rfl⟩,h,rfl,rfl⟩
  .rintro⟨L1,p1,L2,p2,⟨rfl,rfl⟩,h,rfl,rfl⟩;exact h
 |cons c c1 ih=>
  constructor
  .rintro⟨v,p1,L2,p2,h1,h2,rfl,rfl⟩;obtain⟨L3,p3,L4,p4,h3,h4,rfl,rfl⟩:=ih.1 h2;exact⟨(c.key,v)::L3,p1++p3,L4,p4,⟨v,p1,L3,p3,h1,h3,rfl,rfl⟩,h4,rq,rq⟩
  .rintro⟨_,_,L4,p4,⟨v,p1,L3,p3,h1,h3,rfl,rfl⟩,h4,rfl,rfl⟩;exact⟨v,p1,L3++L4,p3++p4,h1,ih.2 ⟨L3,p3,L4,p4,h3,h4,rfl,rfl⟩,rq,rq⟩
def uy {l:List dh}(h:iC l)(hi:i<l.length):(∀c∈l.take i,eD c.key l[i].key)/\(∀c∈l.drop i,kh l[i].key c.key)/\∀c∈l.drop (i+1),eD l[i].key c.key:=by
 have e:l=l.take i++l[i]::l.drop (i+1):=by
  conv=>lhs;rw[<-aEd i l,aDN hi]
 have h2:(l.take i++l[i]::l.drop (i+1)).Pairwise λa b=>eD a.key b.key:=by rw[<-e];exact h
 rw[aFv]at h2;obtain⟨_,h3,h4⟩:=h2;rw[aFU]at h3;refine⟨λc hc=>h4 c hc _ aEw,λc hc=>?_,h3.1⟩;rw[aDN hi]at hc;rcases aDs.1 hc with rfl|hc
 .exact zI _
 .exact(h3.1 c hc).le
def jZ (n:bg):n.fh.length=n.cells.length:=by unfold bg.fh;simp
def Og (n:bg)(h:i<n.cells.length):n.fh[i]'(by rw[jZ];exact h)=n.cells[i].key:=by unfold bg.fh;simp
def ve.cut {b:bg}{lo:cn}{hi:Option cn}(hc:ve G h n lo hi L q)(hn:n.ok)(H:AE n a b i s):
 ∃L1 q1 L2 q2,ve G h a lo (some s) L1 q1/\ve G h b s hi L2 q2/\L=L1++L2/\q=q1++q2:=by
 have hlt:=H.lt;obtain⟨g1,g2,g3⟩:=uy hn.sorted hlt;rw[<-H.key]at g1 g2 g3;cases h with
 |zero=>
  obtain⟨c1,c2,c3,c4⟩:=hc;rcases H.eqs with⟨hl,ha,hb⟩|⟨hl,_⟩
  .rw[<-aEd i n.cells]at c3;obtain⟨L1,q1,L2,q2,d1,d2,rfl,rfl⟩:=eU.append.1 c3;have hs:=c4 _ (aDL hlt);rw[<-H.key]at hs;have gq:(n.cells.take i)≠[]:=by have:=H.neA;rw[ha]at this;exact this
   obtain⟨c0,PU⟩:=List.exists_mem_of_ne_nil _ gq;have Eu:=(c4 c0 (aEg PU)).1.rA (g1 c0 PU);refine⟨L1,q1,L2,q2,?_,?_,rfl,rfl⟩
   .rw[ha];exact⟨rfl,Eu,d1,λc hc=>⟨(c4 c (aEg hc)).1,g1 c hc⟩⟩
   .rw[hb];exact⟨rfl,hs.2,d2,λc hc=>⟨g2 c hc,(c4 c (aEk hc)).2⟩⟩
  .rw[c1]at hl;cases hl
 |succ h=>
  obtain⟨c1,c2⟩:=hc;rcases H.eqs with⟨hl,_⟩|⟨hl,ha,hb⟩
  .rw[c1]at hl;cases hl
  .have hk:=c2.len;rw[jZ]at hk
   have e1:n.fh=(n.fh.take i++[s])++n.fh.drop (i+1):=by
    conv=>lhs;rw[<-aEd (i+1) n.fh,aDH (by rw[jZ];exact hlt),Og n hlt,<-H.key]
   rw[e1]at c2
   conv at c2=>arg 2;rw[<-aEd (i+1) n.kids]
   have hlen:(n.kids.take (i+1)).length=(n.fh.take i++[s]).length:=by simp[jZ];omega
   obtain⟨kH,L1,q1,L2,q2,d1,d2,rfl,rfl⟩:=(bZ.split hlen).1 c2;obtain⟨rfl,d3⟩:=AD.snoc.1 d1;refine⟨L1,q1,L2,q2,?_,?_,rfl,rfl⟩
   .rw[ha];refine⟨rfl,?_⟩;have e:bg.fh ⟨false,n.cells.take i,n.kids.take (i+1)⟩=n.fh.take i:=by unfold bg.fh;simp[aFc]
    rw[e];exact d3
   .rw[hb];refine⟨rfl,?_⟩;have e:bg.fh ⟨false,n.cells.drop (i+1),n.kids.drop (i+1)⟩=n.fh.drop (i+1):=by unfold bg.fh;simp[aEN]
    rw[e];exact d2
def ve.leaf {lo:cn}{hi:Option cn}(hc:ve G h n lo hi L q):n.leaf=decide (h=0):=by
 cases h with
 |zero=>exact hc.1
 |succ h=>exact hc.1
def bZ.join {k1:List Nat}{s1:List cn}{lo:cn}{hi:Option cn}(h1:bZ S k1 s1 lo (some s) L1 q1)(h2:bZ S k2 s2 s hi L2 q2):bZ S (k1++k2) (s1++s::s2) lo hi (L1++L2) (q1++q2):=by
 have e:s1++s::s2=(s1++[s])++s2:=rq
 rw[e];have:=AD.snoc.2 ⟨rfl,h1⟩;exact(bZ.split this.len).2 ⟨s,L1,q1,L2,q2,this,h2,rfl,rfl⟩
def ve.join {b:bg}{lo:cn}{hi:Option cn}(ha:ve G h a lo (some s) L1 q1)(hb:ve G h b s hi L2 q2)(oa:a.ok)(ob:b.ok)(hs:s.length<=48):
 ve G h (dB a s b) lo hi (L1++L2) (q1++q2)/\(dB a s b).ok/\(dB a s b).size<=a.size+b.size+52:=by
 have hla:=ha.leaf;have M7:=hb.leaf;have fa:=ha.facts oa.sorted;have fb:=hb.facts ob.sorted
 have hus:(uv (a.cells.length+b.cells.length)).length<=(uv a.cells.length).length+(uv b.cells.length).length+1:=by
  have key:∀m n,m<=n->(uv (n+m)).length<=(uv n).length+1:=by
   intro m n hmn;have h1:(uv (n+m)).length<=(uv (2*n)).length:=vj pX
   have h2:∀n,(uv (2*n)).length<=(uv n).length+1:=by
    intro n
    induction n using Nat.strongRecOn with
    |_ n ih=>
     by_cases hn:127<n
     .rw[iB hn,iB (n:=2*n) pX,aDT,aDT];have h3:=ih (n/128) pX;have h4:(uv (2*n/128)).length<=(uv (2*(n/128)+1)).length:=vj pX
      by_cases h5:n/128<=63
      .have:(uv (2*(n/128)+1)).length=1:=eJ pX;omega
      .have h6:(uv (2*(n/128)+1)).length<=(uv (2*(n/128))).length:=by
        have h7:127<2*(n/128):=pX
        rw[iB h7,iB (n:=2*(n/128)+1) pX,aDT,aDT];have:(2*(n/128)+1)/128=2*(n/128)/128:=pX
        rw[this];exact aDt _
       omega
     .have:(uv (2*n)).length<=2:=pY pX;rw[eJ (n:=n) pX];omega
   have:=h2 n;omega
  rcases Nat.le_total a.cells.length b.cells.length with h|h
  .have:=key _ _ h;rw[aGg];omega
  .have:=key _ _ h;omega
 cases h with
 |zero=>
  obtain⟨a1,a2,a3,a4⟩:=ha;obtain⟨b1,b2,b3,b4⟩:=hb;have ej:dB a s b=⟨true,a.cells++b.cells,[]⟩:=by unfold dB;rw[aDy a1]
  rw[ej];refine⟨⟨rfl,pI a2 b2,eU.append.2 ⟨L1,q1,L2,q2,a3,b3,rfl,rfl⟩,λc hc=>?_⟩,⟨λc hc=>?_,?_,rfl,rq⟩,?_⟩
  .rcases aDB.1 hc with hc|hc
   .obtain⟨x,y⟩:=a4 c hc;exact⟨x,pI y b2⟩
   .obtain⟨x,y⟩:=b4 c hc;have Uw:eD lo s:=a2;exact⟨(Uw.jY x).le,y⟩
  .rcases aDB.1 hc with hc|hc
   .have:=oa.cell c hc;rw[a1]at this;exact this
   .have:=ob.cell c hc;rw[b1]at this;exact this
  .refine aFv.2 ⟨oa.sorted,ob.sorted,λx hx y hy=>?_⟩;have h1:eD x.key s:=(a4 x hx).2;exact h1.jY (b4 y hy).1
  .rw[cc,cc,cc,a1,b1];simp only[aDQ,ep,aDw];omega
 |succ h=>
  obtain⟨a1,a2⟩:=ha;obtain⟨b1,b2⟩:=hb;have ej:dB a s b=⟨false,a.cells++(fN s::b.cells),a.kids++b.kids⟩:=by unfold dB;rw[aDv (by rw[a1];decide)]
  rw[ej];obtain⟨_,sa,_⟩:=a2.facts Sub.sr;obtain⟨_,sb,_⟩:=b2.facts Sub.sr;have okS:(fN s).ok false:=⟨hs,λ_=>⟨rfl,rfl,rfl⟩,λh=>(by cases h),λh=>(by cases h)⟩;have nt:=oa.jA;have kW:=ob.jA;rw[a1,aDv wI]at nt;rw[b1,aDv wI]at kW;refine⟨⟨rfl,?_⟩,⟨λc hc=>?_,?_,?_,λk hk=>?_⟩,?_⟩
  .have e:bg.fh ⟨false,a.cells++(fN s::b.cells),a.kids++b.kids⟩=a.fh++s::b.fh:=by unfold bg.fh;simp[fN]
   rw[e];exact a2.join b2
  .rcases aDB.1 hc with hc|hc
   .have:=oa.cell c hc;rw[a1]at this;exact this
   .rcases aDs.1 hc with rfl|hc
    .exact okS
    .have:=ob.cell c hc;rw[b1]at this;exact this
  .have AL:∀x∈a.cells,eD x.key s:=λx hx=>(sa x.key (aEA hx)).2;have hsb:∀x∈b.cells,eD s x.key:=λx hx=>(sb x.key (aEA hx)).1;refine aFv.2 ⟨oa.sorted,aFU.2 ⟨λy hy=>hsb y hy,ob.sorted⟩,λx hx y hy=>?_⟩;rcases aDs.1 hy with rfl|hy
   .exact AL x hx
   .exact kT (AL x hx) (hsb y hy)
  .simp;omega
  .rcases aDB.1 hk with hk|hk
   .exact oa.BV k hk
   .exact ob.BV k hk
  .rw[cc,cc,cc,a1,b1];have h49:=(iU okS).2.2 rfl;have e:(a.cells++fN s::b.cells).length=a.cells.length+b.cells.length+1:=by simp;omega
   have h1:(uv (a.cells.length+b.cells.length+1)).length<=(uv (a.cells.length+b.cells.length)).length+1:=by
    generalize a.cells.length+b.cells.length=m
    induction m using Nat.strongRecOn with
    |_ n ih=>
     by_cases hn:127<n
     .rw[iB hn,iB (n:=n+1) pX,aDT,aDT];have h3:=ih (n/128) pX;have h4:(uv ((n+1)/128)).length<=(uv (n/128+1)).length:=vj pX;omega
     .have:(uv (n+1)).length<=2:=pY pX;rw[eJ (n:=n) pX];omega
   simp only[aDp,aDE,ep,fx,iG,aDw,e];omega
def bZ.Qc {km:List Nat}{sm:List cn}{lo:cn}{kH hi:Option cn}{Lm Lb:List bt}{pm pb:List Nat}(h1:bZ S km sm lo kH Lm pm)(h2:Nh S k2 s2 kH hi Lb pb):bZ S (km++k2) (sm++s2) lo hi (Lm++Lb) (pm++pb):=by
 induction km generalizing sm lo Lm pm with
 |nil=>cases sm<;>exact h1.elim
 |cons k km ih=>
  cases sm with
  |nil=>
   rw[bZ.one]at h1;obtain⟨rfl,h1⟩:=h1;exact bZ.focus.2 ⟨kH,Lm,pm,Lb,pb,h1,h2,rfl,rfl⟩
  |cons s sm=>
   rw[bZ.cons]at h1;obtain⟨L1,p1,L2,p2,a,b,rfl,rfl⟩:=h1;rw[aEp,aEp,bZ.cons];exact⟨L1,p1,L2++Lb,p2++pb,a,ih b,rq,rq⟩
structure gK (G:GM)(L:List bt):Prop where
 ok:uX G
 tree:(G.root=0/\L=[])\/∃h ps,ps.Nodup/\Sub G h G.root [] none L ps
def lM {page:Nat}{x:PC}(h:page∉ps):Kept G (G.put page x) ps:=λq hq=>⟨λh=>h,Ip _ _ _ _ λe=>h (e▸hq)⟩
def Ctx.write {l:List cV}{page:Nat}{lo:cn}{hi:Option cn}{Ll Lr:List bt}(hc:Ctx G h l page lo hi Ll Lr ps)(hG:uX G)(hu:G.bS page)(hn:n.ok)(hs:n.size<=512)(hf:n.leaf=true\/n.cells≠[])
 (lz:ve G h n lo hi L q) (je:(page::(q++ps)).Nodup):gK (G.put page (.node n)) (Ll++(L++Lr)):=by
 rw[aDG]at je;have hp:page∉q/\page∉ps:=by simpa using je.1
 obtain⟨px,e1,e2⟩:=(Ctx.kept (G:=G) (G':=G.put page (.node n)) rfl hc (lM hp.2)).fill (L:=L) (q:=page::q) ⟨n,q,⟨hu,mz _ _ _,hn,hs,hf⟩,lz.kept (lM hp.1),rfl⟩;exact⟨hG.put _ _,.inr ⟨_,px,e1.nodup_iff.2 (aDG.2 je),e2⟩⟩
end
section
variable {n:bg}{S:sI}{ks:List Nat}{ss:List cn}{L:List bt}{ps:List Nat}{G:GM}{h:Nat}{q:List Nat}
def iM (n:bg)(key:cn):Nat:=n.cells.findIdx λc=>decide (eD key c.key)
def sq {l:List dh}(h:iC l)(p:cn->Bool)(hp:∀a b,eD a b->p a=true->p b=true):(∀c∈l.take (l.findIdx λc=>p c.key),p c.key=false)/\∀c∈l.drop (l.findIdx λc=>p c.key),p c.key=true:=by
 induction l with
 |nil=>simp
 |cons a l ih=>
  unfold iC at h;rw[aFU]at h;obtain⟨i1,i2⟩:=ih h.2;rw[List.findIdx_cons];cases hpa:p a.key with
  |true=>
   simp only[cond_true,aFj,aDX];refine⟨rq,λc hc=>?_⟩;rcases aDs.1 hc with rfl|hc
   .exact hpa
   .exact hp _ _ (h.1 c hc) hpa
  |false=>
   simp only[cond_false,List.take_succ_cons,List.drop_succ_cons];refine⟨λc hc=>?_,i2⟩;rcases aDs.1 hc with rfl|hc
   .exact hpa
   .exact i1 c hc
def qF (h:iC n.cells)(key:cn):n.find key<=n.cells.length/\(∀c∈n.cells.take (n.find key),eD c.key key)/\∀c∈n.cells.drop (n.find key),kh key c.key:=by
 obtain⟨h1,h2⟩:=sq h (λk=>decide (kh key k)) λa b vZ ha=>by
  simp only[aEJ]at*;exact(ha.rA vZ).le
 refine⟨aFC,λc hc=>?_,λc hc=>by simpa using h2 c hc⟩;have:=h1 c hc;simp only[decide_eq_false_iff_not]at this;rcases BT key c.key with h|h
 .exact absurd h this
 .exact h
def BU (h:iC n.cells)(key:cn):iM n key<=n.cells.length/\(∀c∈n.cells.take (iM n key),kh c.key key)/\∀c∈n.cells.drop (iM n key),eD key c.key:=by
 obtain⟨h1,h2⟩:=sq h (λk=>decide (eD key k)) λa b vZ ha=>by
  simp only[aEJ]at*;exact kT ha vZ
 exact⟨aFC,λc hc=>by have:=h1 c hc;simpa[kh]using this,λc hc=>by simpa using h2 c hc⟩
def XK (h:iC n.cells)(key:cn):iM n key=match n.cells[n.find key]? with|some c=>if c.key=key then n.find key+1 else n.find key|none=>n.find key:=by
 obtain⟨f1,f2,f3⟩:=qF h key;obtain⟨k1,k2,k3⟩:=BU h key
 have hle:n.find key<=iM n key:=by
  rcases aEG (iM n key) (n.find key)with hlt|jW
  .have hl:iM n key<n.cells.length:=by omega
   have a:=k3 n.cells[iM n key] (by rw[aDN hl];exact aEw);have b:=f2 n.cells[iM n key] (by rw[List.mem_iff_getElem];exact⟨iM n key,Ws,rq⟩);exact absurd a (kU b)
  .exact jW
 have Bf:∀j,n.find key<=j->j<iM n key->∃hj:j<n.cells.length,n.cells[j].key=key:=λj h1 h2=>by
  have hl:j<n.cells.length:=pX
  have a:=k2 n.cells[j] (by rw[List.mem_iff_getElem];exact⟨j,Ws,rq⟩);have b:=f3 n.cells[j] (by rw[List.mem_iff_getElem];exact⟨j-n.find key,WK,by simp;congr 1;omega⟩);exact⟨hl,DI a b⟩
 cases hg:n.cells[n.find key]? with
 |none=>
  rw[List.getElem?_eq_none_iff]at hg;dsimp only;omega
 |some c=>
  obtain⟨hl,hc⟩:=aDD.1 hg;dsimp only
  by_cases he:c.key=key
  .rw[aDy he]
   have h1:n.find key<iM n key:=by
    rcases aEG (n.find key) (iM n key)with h|h
    .exact h
    .have:iM n key=n.find key:=by omega
     have a:=k3 n.cells[n.find key] (by rw[this,aDN hl];exact aEw);rw[hc,he]at a;exact absurd a (gC _)
   have h2:iM n key<=n.find key+1:=by
    rcases aEG (n.find key+1) (iM n key)with h3|h3
    .obtain⟨x1,x2⟩:=Bf (n.find key) (aDt _) h1;obtain⟨y1,y2⟩:=Bf (n.find key+1) pX h3;have:=aFI.1 h (n.find key) (n.find key+1) x1 y1 pX;rw[x2,y2]at this;exact absurd this (gC _)
    .exact h3
   omega
  .rw[aDv he];rcases aEG (n.find key) (iM n key)with h|h
   .obtain⟨x1,x2⟩:=Bf (n.find key) (aDt _) h;rw[hc]at x2;exact absurd x2 he
   .omega
def AD.key (hS:∀k lo hi L q,S k lo hi L q->Bp lo hi L){lo kH key:cn}(h:AD S ks ss lo kH L ps)(Eu:kh lo key)(hs:∀s∈ss,kh s key):kh kH key:=by
 induction ks generalizing ss lo L ps with
 |nil=>cases ss with
  |nil=>obtain⟨rfl,_⟩:=h;exact Eu
  |cons s ss=>exact h.elim
 |cons k ks ih=>
  cases ss with
  |nil=>exact h.elim
  |cons s ss=>
   obtain⟨L1,p1,L2,p2,h1,h2,rfl,rfl⟩:=h;exact ih h2 (hs s rq) λt ht=>hs t (by simp[ht])
def Nh.key {kH hi:Option cn}{key:cn}(h:Nh S ks ss kH hi L ps)(HG:DD key hi)(hs:∀s∈ss,eD key s):DD key kH:=by
 cases ks with
 |nil=>cases ss with
  |nil=>obtain⟨rfl,_⟩:=h;exact HG
  |cons s ss=>exact h.elim
 |cons k ks=>
  cases ss with
  |nil=>exact h.elim
  |cons s ss=>obtain⟨rfl,_⟩:=h;exact hs s rq
def Ctx.descend {l:List cV}{page:Nat}{lo:cn}{hi:Option cn}{Ll Lr:List bt}{key:cn}(hc:Ctx G (h+1) l page lo hi Ll Lr ps)(hn:nf G page n)(lz:ve G (h+1) n lo hi L q)(Eu:kh lo key)(HG:DD key hi):
 ∃xJ IK xW La Lm Lb p2 pm,n.kids[iM n key]?=some xJ/\Ctx G h (⟨page,iM n key,n⟩::l) xJ IK xW (Ll++La) (Lb++Lr) p2/\Sub G h xJ IK xW Lm pm/\kh IK key/\DD key xW/\L=La++(Lm++Lb)/\(pm++p2).Perm (page::(q++ps)):=by
 obtain⟨k1,k2,k3⟩:=BU hn.ok.sorted key;obtain⟨c1,c2⟩:=lz;have hlen:=c2.len;rw[jZ]at hlen;generalize iM n key=i at*;have ff:i<n.kids.length:=pX
 have c3:=c2;rw[zJ n.kids i n.kids[i] (aDu ff)]at c3;rw[<-aEd i n.fh]at c3;have Ev:(n.kids.take i).length=(n.fh.take i).length:=by rw[aDF,aDF,jZ];omega
 obtain⟨IK,La,pa,L2,p2,d1,d2,rfl,rfl⟩:=(bZ.split Ev).1 c3;obtain⟨xW,Lm,pm,Lb,pb,d3,d4,rfl,rfl⟩:=bZ.focus.1 d2;refine⟨n.kids[i],IK,xW,La,Lm,Lb,_,pm,aDu ff,⟨lo,hi,Ll,Lr,ps,La,pa,Lb,pb,hc,hn,c1,aDu ff,d1,d4,rfl,rfl,rfl⟩,d3,?_,?_,rfl,?_⟩
 .refine d1.key Sub.sr Eu λs hs=>?_;have:s∈(n.cells.take i).map (·.key):=by rw[aFc];exact hs
  obtain⟨c,hc,rfl⟩:=aDR.1 this;exact k2 c hc
 .refine d4.key HG λs hs=>?_;have:s∈(n.cells.drop i).map (·.key):=by rw[aEN];exact hs
  obtain⟨c,hc,rfl⟩:=aDR.1 this;exact k3 c hc
 .refine(aFh.2 λx=>?_);simp only[aFp,aFB];omega
def rz (hG:uX G){n:Nat}(h:G.bS n):n<=qt:=by
 have:=h.2.1;have:=hG.iv;have:=hG.size;show n<=2147483647;omega
def Kept.trans {G' G'':GM}(h:Kept G G' ps)(k:Kept G' G'' ps):Kept G G'' ps:=λq hq=>⟨λhu=>(k q hq).1 ((h q hq).1 hu),by rw[(k q hq).2,(h q hq).2]⟩
def uK (ha:KU G)(h:G.dV∉ps):Kept G G.alloc ps:=λq hq=>⟨λhu=>(ha.bS q).2 (.inl hu),ha.cont q λe=>h (e▸hq)⟩
structure Hu (G:GM)(b:bg)(G':GM)(r:Nat):Prop where
 ok:uX G'
 not:¬G.bS r
 is:nf G' r b
 kept:∀ps,r∉ps->Kept G G' ps
 root:G'.root=G.root
 free:G'.cP+1=G.cP
 aE:G'.aE=G.aE
 bS:∀q,G'.bS q↔G.bS q\/q=r
def Q0 (hG:uX G)(hf:0<G.cP){b:bg}(hb:b.ok)(hs:b.size<=512)(hn:b.leaf=true\/b.cells≠[]):Hu G b (G.alloc.put G.dV (.node b)) G.dV:=by
 have ha:=tB hG hf;exact⟨ha.ok.put _ _,ha.not,⟨(ha.bS _).2 (.inr rfl),mz _ _ _,hb,hs,hn⟩,λps hp=>(uK ha hp).trans (lM hp),ha.root,ha.free,ha.aE,ha.bS⟩
def HW {G2 G3:GM}{page r r':Nat}{a b:bg}{i:Nat}{s:cn}(hG:uX G)(hu:G.bS page)(hn:n.ok)(H:AE n a b i s)(lz:ve G h n [] none L q)(je:(page::q).Nodup)
 (h2:Hu (G.put page (.node a)) b G2 r) (h3:Hu G2 ⟨false,[fN s],[page,r]⟩ G3 r'):gK (G3.gO r') L:=by
 obtain⟨L1,q1,L2,q2,c1,c2,rfl,rfl⟩:=lz.cut hn H;rw[aDG]at je;have hq1:page∉q1/\page∉q2:=by simpa using je.1
 have u1:=c1.aE;have u2:=c2.aE;have hr:r≠page/\r∉q1/\r∉q2:=⟨λe=>h2.not (e▸hu),λh=>h2.not (u1 r h),λh=>h2.not (u2 r h)⟩;have AM:r'≠page/\r'≠r/\r'∉q1/\r'∉q2:=⟨λe=>h3.not ((h2.bS _).2 (.inl (e▸hu))),λe=>h3.not ((h2.bS _).2 (.inr e)),λh=>h3.not ((h2.bS _).2 (.inl (u1 r' h))),λh=>h3.not ((h2.bS _).2 (.inl (u2 r' h)))⟩;have kp:∀ps,page∉ps->r∉ps->r'∉ps->Kept G (G3.gO r') ps:=λps x1 x2 x3=>((lM x1).trans (h2.kept ps x2)).trans (h3.kept ps x3);have kp2:∀ps,r∉ps->r'∉ps->Kept (G.put page (.node a)) (G3.gO r') ps:=λps x2 x3=>(h2.kept ps x2).trans (h3.kept ps x3);have Qj:a.leaf=true\/a.cells≠[]:=.inr H.neA;refine⟨h3.ok.gO _,.inr ⟨h+1,r'::((page::q1)++(r::q2)),?_,⟨false,[fN s],[page,r]⟩,_,⟨h3.is.bS,h3.is.cont,h3.is.ok,h3.is.size,h3.is.full⟩,⟨rfl,?_⟩,rfl⟩⟩
 .have xg:=je.2;rw[aEn]at xg;obtain⟨n1,n2,n3⟩:=xg;simp only[aEp,aDG,aDs,aDB,aEM,aEn]
  exact⟨⟨AM.1,AM.2.2.1,AM.2.1,AM.2.2.2⟩,⟨hq1.1,aEr hr.1,hq1.2⟩,n1,⟨hr.2.2,n2⟩,λx hx y hy=>by
   rcases hy with rfl|hy
   .exact λe=>hr.2.1 (e▸hx)
   .exact n3 x hx y hy⟩
 .show bZ (Sub (G3.gO r') h) [page,r] [s] [] none (L1++L2) _;rw[bZ.cons];refine⟨L1,page::q1,L2,r::q2,⟨a,q1,?_,c1.kept (kp q1 hq1.1 hr.2.1 AM.2.2.1),rfl⟩,?_,rfl,rfl⟩
  .exact nf.kept (G:=G.put page (.node a)) ⟨hu,mz _ _ _,H.Xv,H.szA,Qj⟩ (kp2 [page] (by simpa using hr.1) (by simpa using AM.1))
  .rw[bZ.one];refine⟨rfl,b,q2,h2.is.kept (h3.kept [r] (by simpa using AM.2.1)),c2.kept (kp q2 hq1.2 hr.2.2 AM.2.2.2),rfl⟩
end
section
variable {s:cn}{L:List bt}{q:List Nat}{n:bg}{i r:Nat}
def more (n:bg)(i:Nat)(s:cn)(r:Nat):bg:=⟨false,n.cells.take i++fN s::n.cells.drop i,n.kids.take (i+1)++r::n.kids.drop (i+1)⟩
def LV (n:bg)(i:Nat)(s:cn)(r:Nat):(more n i s r).fh=n.fh.take i++([s]++n.fh.drop i):=by
 unfold bg.fh more;simp[fN,aFc,aEN]
def sR (h:s.length<=48):(fN s).ok false:=⟨h,λ_=>⟨rfl,rfl,rfl⟩,λh=>(by cases h),λh=>(by cases h)⟩
def Dy {S:sI}(hS:∀k lo hi L q,S k lo hi L q->Bp lo hi L){m:bg}{lo:cn}{hi:Option cn}(hl:m.leaf=false)(hc:∀c∈m.cells,c.ok false)(hk:∀k∈m.kids,k<=qt)(h:bZ S m.kids m.fh lo hi L q):m.ok:=by
 obtain⟨_,_,h3⟩:=h.facts hS;refine⟨by rw[hl];exact hc,?_,?_,hk⟩
 .unfold bg.fh at h3;rw[aFx]at h3;exact h3
 .rw[hl,aDv wI,h.len,jZ]
def ij (leaf:Bool)(l:List dh)(i:Nat):(cR leaf (l.take i)).length+(cR leaf (l.drop i)).length=(cR leaf l).length:=by
 rw[<-aDw,<-ep,aEd]
def qW (l:List Nat)(i:Nat):(eK (l.take i)).length+(eK (l.drop i)).length=(eK l).length:=by
 rw[<-aDw,<-iG,aEd]
def Se (m:Nat):(uv (m+1)).length<=(uv m).length+1:=by
 induction m using Nat.strongRecOn with
 |_ n ih=>
  by_cases hn:127<n
  .rw[iB hn,iB (n:=n+1) pX,aDT,aDT];have h3:=ih (n/128) pX;have h4:(uv ((n+1)/128)).length<=(uv (n/128+1)).length:=vj pX;omega
  .have:(uv (n+1)).length<=2:=pY pX;rw[eJ (n:=n) pX];omega
def LS (hl:n.leaf=false)(hi:i<=n.cells.length)(hs:s.length<=48)(hr:r<=qt):(more n i s r).size<=n.size+55:=by
 rw[cc,cc,hl];have h1:=ij false n.cells i;have h2:=qW n.kids (i+1);have h3:=(iU (sR hs)).2.2 rfl;have h4:=(jS r hr).2;have h5:=Se n.cells.length;have e:(more n i s r).cells.length=n.cells.length+1:=by unfold more;simp;omega
 rw[e];unfold more;simp only[aDp,aDE,ep,fx,iG,nX,aDw];omega
def Lf {G G2:GM}{sm:cV}{l:List cV}{h page:Nat}{lo:cn}{hi:Option cn}{Ll Lr:List bt}{ps:List Nat}{a b:bg}(hc:Ctx G h (sm::l) page lo hi Ll Lr ps)(hG:uX G)(hu:G.bS page)(hn:n.ok)(H:AE n a b i s)(lz:ve G h n lo hi L q)(je:(page::(q++ps)).Nodup)
 (h2:Hu (G.put page (.node a)) b G2 r):sm.at_<=sm.n.cells.length/\sm.n.leaf=false/\(more sm.n sm.at_ s r).ok/\(more sm.n sm.at_ s r).size<=600/\G2.bS sm.page/\
  ∃lr ff yK yJ L' px q',Ctx G2 (h+1) l sm.page lr ff yK yJ px/\ve G2 (h+1) (more sm.n sm.at_ s r) lr ff L' q'/\(sm.page::(q'++px)).Nodup/\yK++(L'++yJ)=Ll++(L++Lr):=by
 obtain⟨lr,ff,yK,yJ,px,La,pa,Lb,pb,d1,d2,d3,d4,d5,d6,rfl,rfl,rfl⟩:=hc;obtain⟨L1,q1,L2,q2,c1,c2,rfl,rfl⟩:=lz.cut hn H;obtain⟨mM,_⟩:=aDD.1 d4;have qA:=d2.ok.jA;rw[d3,aDv wI]at qA;have Ew:sm.at_<=sm.n.cells.length:=pX
 have Bb:s.length<=48:=by rw[H.key];exact(hn.cell _ (aDL ..)).key
 have hrm:=rz h2.ok h2.is.bS;have iZ:∀x,G.bS x->x≠r:=λx hx e=>h2.not (e▸hx)
 have upa:∀x,x∈pa\/x∈pb\/x∈px\/x=sm.page->G.bS x:=λx hx=>by
  have hcx:=Ctx.aE (l:=sm::l) (page:=page) (h:=h) ⟨lr,ff,yK,yJ,px,La,pa,Lb,pb,d1,d2,d3,d4,d5,d6,rfl,rfl,rfl⟩;refine hcx x ?_;simp only[aDs,aDB];rcases hx with h|h|h|h<;>simp[h]
 have Gi:=je;simp only[aDG,aDB,aDs,aEM,aEn]at je;obtain⟨⟨⟨y1,y2⟩,y3,y4,y5,y6⟩,⟨y7,y8,y9⟩,⟨⟨z1,z2,z3⟩,z4,⟨z5,z6,z7⟩,z8⟩,z9⟩:=je;have kp:=λps x1 x2=>(lM x1).trans (h2.kept ps x2)
 have k1:Kept G G2 (sm.page::(pa++(pb++px))):=kp _ (by simp only[aDs,aDB,aEM];exact⟨y3,y4,y5,y6⟩) (λhr=>by
  simp only[aDs,aDB]at hr;refine iZ r (upa r ?_) rfl;rcases hr with h|h|h|h<;>simp[h])
 have Qj:a.leaf=true\/a.cells≠[]:=.inr H.neA;have Vn:r∉q1:=λhh=>iZ r (c1.aE r hh) rfl;have Cb:r∉q2:=λhh=>iZ r (c2.aE r hh) rfl;have hrp:r≠page:=λe=>iZ page hu e.symm;have sa:Sub G2 h page lo (some s) L1 (page::q1):=⟨a,q1,nf.kept (G:=G.put page (.node a)) ⟨hu,mz _ _ _,H.Xv,H.szA,Qj⟩ (h2.kept _ (by simpa using hrp)),c1.kept (kp _ y1 Vn),rfl⟩;have sb:Sub G2 h r s hi L2 (r::q2):=⟨b,q2,h2.is,c2.kept (kp _ y2 Cb),rfl⟩;have YE:=bZ.cons.2 ⟨L1,_,L2,_,sa,bZ.one.2 ⟨rfl,sb⟩,rfl,rfl⟩;have ka:=d5.mono (S':=Sub G2 h) λ_ _ _ _ qq hq hS=>hS.kept (k1.sub λx hx=>WG);have kb:=d6.mono (S':=Sub G2 h) λ_ _ _ _ qq hq hS=>hS.kept (k1.sub λx hx=>WG);have qz:sm.n.kids.take (sm.at_+1)=sm.n.kids.take sm.at_++[page]:=by rw[aDH mM];congr 2
 have fk:bZ (Sub G2 h) (more sm.n sm.at_ s r).kids (more sm.n sm.at_ s r).fh lr ff (La++((L1++L2)++Lb)) (pa++(((page::q1)++(r::q2))++pb)):=by
  rw[LV]
  have e:(more sm.n sm.at_ s r).kids=sm.n.kids.take sm.at_++([page,r]++sm.n.kids.drop (sm.at_+1)):=by
   show sm.n.kids.take (sm.at_+1)++r::_=_;rw[qz];simp
  rw[e];exact(bZ.split d5.len).2 ⟨lo,La,pa,_,_,ka,YE.Qc kb,rfl,rfl⟩
 have oX:(more sm.n sm.at_ s r).ok:=by
  refine Dy Sub.sr rfl (λc hc=>?_) (λk hk=>?_) fk
  .have hc:c∈sm.n.cells.take sm.at_++fN s::sm.n.cells.drop sm.at_:=hc;have gQ:∀c∈sm.n.cells,c.ok false:=by have:=d2.ok.cell;rw[d3]at this;exact this
   rcases aDB.1 hc with hc|hc
   .exact gQ c (aEg hc)
   .rcases aDs.1 hc with rfl|hc
    .exact sR Bb
    .exact gQ c (aEk hc)
  .have hk:k∈sm.n.kids.take (sm.at_+1)++r::sm.n.kids.drop (sm.at_+1):=hk;rcases aDB.1 hk with hk|hk
   .exact d2.ok.BV k (aEg hk)
   .rcases aDs.1 hk with rfl|hk
    .exact hrm
    .exact d2.ok.BV k (aEk hk)
 refine⟨Ew,d3,oX,?_,k1 sm.page (by simp)|>.1 d2.bS,lr,ff,yK,yJ,_,px,_,Ctx.kept (G:=G) h2.root d1 (k1.sub λx hx=>WH),⟨rfl,fk⟩,?_,rq⟩
 .have:=LS d3 Ew Bb hrm (n:=sm.n);have:=d2.size;omega
 .have IT:=λx hx=>iZ x (upa x hx)
  have hP:(sm.page::((pa++(((page::q1)++(r::q2))++pb))++px)).Perm (r::(page::((q1++q2)++(sm.page::(pa++(pb++px)))))):=by
   refine(aFh.2 λx=>?_);simp only[aFp,aFB];omega
  refine hP.nodup_iff.2 (aDG.2 ⟨?_,Gi⟩);simp only[aDs,aDB,aEM];exact⟨hrp,⟨Vn,Cb⟩,λe=>IT _ (.inr (.inr (.inr rfl))) e.symm,λh=>IT _ (.inl h) rfl,λh=>IT _ (.inr (.inl h)) rfl,λh=>IT _ (.inr (.inr (.inl h))) rfl⟩
end
section
variable {l:List cV}{i:Nat}{G:GM}{sm:cV}{h:Nat}{Ll Lr L:List bt}{ps q:List Nat}{n:bg}{left:Nat}{first second:bg}{sep:cn}{pf pn:Nat}{LL:List bt}
structure tE where
 lr:cn
 ff:Option cn
 yK:List bt
 yJ:List bt
 px:List Nat
 La:List bt
 pa:List Nat
 Lb:List bt
 pb:List Nat
 IK:cn
 xW:Option cn
 L1:List bt
 q1:List Nat
 L2:List bt
 q2:List Nat
structure uY (G:GM)(h:Nat)(sm:cV)(l:List cV)(left:Nat)(first second:bg)(sep:cn)(pf pn:Nat)(LL:List bt)(aE:List Nat)(d:tE):Prop where
 ctx:Ctx G (h+1) l sm.page d.lr d.ff d.yK d.yJ d.px
 node:nf G sm.page sm.n
 inner:sm.n.leaf=false
 O0:sm.n.kids[left]?=some pf
 Tc:sm.n.kids[left+1]?=some pn
 akK:sm.n.fh[left]?=some sep
 kl:AD (Sub G h) (sm.n.kids.take left) (sm.n.fh.take left) d.lr d.IK d.La d.pa
 c1:ve G h first d.IK (some sep) d.L1 d.q1
 c2:ve G h second sep d.xW d.L2 d.q2
 kr:Nh (Sub G h) (sm.n.kids.drop (left+2)) (sm.n.fh.drop (left+1)) d.xW d.ff d.Lb d.pb
 total:d.yK++((d.La++((d.L1++d.L2)++d.Lb))++d.yJ)=LL
 perm:(pf::pn::((d.q1++d.q2)++(sm.page::(d.pa++(d.pb++d.px))))).Perm aE
 u1:G.bS pf
 u2:G.bS pn
 ok1:first.ok
 ok2:second.ok
def Cq {α:Type}{l:List α}{x:α}{r:List α}(h:l.drop i=x::r):l[i]?=some x/\l.drop (i+1)=r:=by
 have hi:i<l.length:=by
  rcases aEG i l.length with h2|h2
  .exact h2
  .rw[aEa h2]at h;cases h
 rw[aDN hi]at h;simp only[aEX]at h;exact⟨by rw[aDu hi,h.1],h.2⟩
def Lj {page:Nat}{lo:cn}{hi:Option cn}(hc:Ctx G h (sm::l) page lo hi Ll Lr ps)(hu:G.bS page)(hn:n.ok)(lz:ve G h n lo hi L q)(mM:sm.at_+1<sm.n.kids.length):
 ∃other pn sep d,nf G pn other/\uY G h sm l sm.at_ n other sep page pn (Ll++(L++Lr)) (page::(q++ps)) d:=by
 obtain⟨lr,ff,yK,yJ,px,La,pa,Lb,pb,d1,d2,d3,d4,d5,d6,rfl,rfl,rfl⟩:=hc;have qA:=d2.ok.jA;rw[d3,aDv wI]at qA;obtain⟨k2,r2,kW⟩:∃k r,sm.n.kids.drop (sm.at_+1)=k::r:=⟨_,_,aDN mM⟩;obtain⟨s2,t2,HA⟩:∃s t,sm.n.fh.drop sm.at_=s::t:=⟨_,_,aDN (by rw[jZ];omega)⟩;rw[kW,HA]at d6;obtain⟨rfl,e1⟩:=d6;obtain⟨kH,L1,p1,L2,p2,e2,e3,rfl,rfl⟩:=bZ.focus.1 e1;obtain⟨other,qo,f1,f2,rfl⟩:=e2;obtain⟨g1,g2⟩:=Cq kW;obtain⟨g3,g4⟩:=Cq HA;refine⟨other,k2,s2,⟨lr,ff,yK,yJ,px,La,pa,L2,p2,lo,kH,L,q,L1,qo⟩,f1,⟨d1,d2,d3,d4,g1,g3,d5,lz,f2,by rw[g2,g4];exact e3,rq,?_,hu,f1.bS,hn,f1.ok⟩⟩;refine(aFh.2 λx=>?_);simp only[aFp,aFB];omega
def Ob {page:Nat}{lo:cn}{hi:Option cn}{at':Nat}(hc:Ctx G h (sm::l) page lo hi Ll Lr ps)(hu:G.bS page)(hn:n.ok)(lz:ve G h n lo hi L q)(mM:sm.at_=at'+1):
 ∃other pf sep d,nf G pf other/\uY G h sm l at' other n sep pf page (Ll++(L++Lr)) (page::(q++ps)) d:=by
 obtain⟨lr,ff,yK,yJ,px,La,pa,Lb,pb,d1,d2,d3,d4,d5,d6,rfl,rfl,rfl⟩:=hc;have qA:=d2.ok.jA;rw[d3,aDv wI]at qA;obtain⟨aoR,_⟩:=aDD.1 d4;rw[mM]at d4 d5 d6 aoR;have nt:at'<sm.n.kids.length:=pX
 have HB:at'<sm.n.fh.length:=by rw[jZ];omega
 rw[aDH nt,aDH HB]at d5;obtain⟨m,L1,p1,L2,p2,e1,e2,rfl,rfl⟩:=(AD.append (by rw[aDF,aDF];omega)).1 d5;obtain⟨L3,p3,L4,p4,e3,⟨e4,rfl,rfl⟩,rfl,rfl⟩:=e2;subst e4;obtain⟨other,qo,f1,f2,rfl⟩:=e3;refine⟨other,sm.n.kids[at'],sm.n.fh[at'],⟨lr,ff,yK,yJ,px,L1,p1,Lb,pb,m,hi,L3,qo,L,q⟩,f1,⟨d1,d2,d3,aDu nt,d4,aDu HB,e1,f2,lz,d6,rq,?_,f1.bS,hu,f1.ok,hn⟩⟩;refine(aFh.2 λx=>?_);simp only[aFp,aFB,List.count_nil];omega
def tM (n:bg)(i:Nat):bg:=⟨false,n.cells.take i++n.cells.drop (i+1),n.kids.take (i+1)++n.kids.drop (i+2)⟩
def jr (n:bg)(i:Nat)(s:cn):bg:=⟨false,n.cells.take i++fN s::n.cells.drop (i+1),n.kids⟩
structure Bo (G:GM)(h:Nat)(page:Nat)(l:List cV)(m:bg)(LL:List bt):Prop where
 ok:uX G
 bS:G.bS page
 MY:m.ok
 ctx:∃lo hi Ll Lr L ps q,Ctx G h l page lo hi Ll Lr ps/\ve G h m lo hi L q/\(page::(q++ps)).Nodup/\Ll++(L++Lr)=LL
def uT {aE:List Nat}{d:tE}(b:uY G h sm l left first second sep pf pn LL aE d):sep.length<=48/\left<sm.n.cells.length/\sm.n.kids.length=sm.n.cells.length+1/\∃c,sm.n.cells[left]?=some c/\c.key=sep:=by
 have hs:=b.akK;unfold bg.fh at hs;rw[aEf]at hs;have qA:=b.node.ok.jA;rw[b.inner,aDv wI]at qA;cases hc:sm.n.cells[left]? with
 |none=>rw[hc]at hs;cases hs
 |some c=>
  rw[hc]at hs;have:c.key=sep:=aFr hs;obtain⟨hl,qC⟩:=aDD.1 hc;exact⟨by rw[<-this];exact(b.node.ok.cell c (aEm hc)).key,hl,qA,c,rfl,this⟩
def He {aE:List Nat}{d:tE}(b:uY G h sm l left first second sep pf pn LL aE d)(hG:uX G)(je:aE.Nodup)(hs:(dB first sep second).size<=512):
 (G.put pf (.node (dB first sep second))).bS pn/\Bo ((G.put pf (.node (dB first sep second))).drop pn) (h+1) sm.page l (tM sm.n left) LL/\(tM sm.n left).size<=512/\((G.put pf (.node (dB first sep second))).drop pn).cP=G.cP+1:=by
 obtain⟨s48,hl,qA,c,hc,xj⟩:=uT b;obtain⟨j1,j2,j3⟩:=b.c1.join b.c2 b.ok1 b.ok2 s48;have Gi:=b.perm.nodup_iff.2 je;have xg:=Gi;simp only[aDG,aDB,aDs,aEM,aEn]at xg;obtain⟨⟨x1,⟨x2,x3⟩,x4,x5,x6,x7⟩,⟨⟨x8,x9⟩,df,da,dv,dd⟩,-⟩:=xg;have hD:=tn (hG.put pf (.node (dB first sep second))) (show(G.put pf _).bS pn from b.u2)
 have ku:(dB first sep second).leaf=true\/(dB first sep second).cells≠[]:=by
  unfold dB;split
  .exact .inl rfl
  .exact .inr rq
 have kp:∀ps,pf∉ps->pn∉ps->Kept G ((G.put pf (.node (dB first sep second))).drop pn) ps:=λps a b q hq=>⟨λhu=>(hD.bS q).2 ⟨hu,λe=>b (e▸hq)⟩,Ip _ _ _ _ λe=>a (e▸hq)⟩;have gq:pf≠pn:=x1
 have sw:Sub ((G.put pf (.node (dB first sep second))).drop pn) h pf d.IK d.xW (d.L1++d.L2) (pf::(d.q1++d.q2)):=
  ⟨_,_,⟨(hD.bS pf).2 ⟨b.u1,gq⟩,mz _ _ _,j2,hs,ku⟩,j1.kept (kp _ (by simp;exact⟨x2,x3⟩) (by simp;exact⟨x8,x9⟩)),rfl⟩
 have kc:Kept G ((G.put pf (.node (dB first sep second))).drop pn) (sm.page::(d.pa++(d.pb++d.px))):=kp _ abd abe;have ka:=b.kl.mono (S':=Sub ((G.put pf (.node (dB first sep second))).drop pn) h) λ_ _ _ _ qq hq hS=>hS.kept (kc.sub λx hx=>WG);have kb:=b.kr.mono (S':=Sub ((G.put pf (.node (dB first sep second))).drop pn) h) λ_ _ _ _ qq hq hS=>hS.kept (kc.sub λx hx=>WG);obtain⟨nt,YT⟩:=aDD.1 b.O0
 have fk:bZ (Sub ((G.put pf (.node (dB first sep second))).drop pn) h) (tM sm.n left).kids (tM sm.n left).fh d.lr d.ff (d.La++((d.L1++d.L2)++d.Lb)) (d.pa++((pf::(d.q1++d.q2))++d.pb)):=by
  have e1:(tM sm.n left).fh=sm.n.fh.take left++([]++sm.n.fh.drop (left+1)):=by unfold bg.fh tM;simp[aFc,aEN]
  have e2:(tM sm.n left).kids=sm.n.kids.take left++([pf]++sm.n.kids.drop (left+2)):=by
   show sm.n.kids.take (left+1)++_=_;rw[aDH nt,YT];simp
  rw[e1,e2];exact(bZ.split b.kl.len).2 ⟨d.IK,d.La,d.pa,_,_,ka,bZ.Qc (bZ.one.2 ⟨rfl,sw⟩) kb,rfl,rfl⟩
 have gQ:∀c∈sm.n.cells,c.ok false:=aaI
 have YD:(tM sm.n left).ok:=by
  refine Dy Sub.sr rfl (λc hc=>?_) (λk hk=>?_) fk
  .have hc:c∈sm.n.cells.take left++sm.n.cells.drop (left+1):=hc;rcases aDB.1 hc with hc|hc
   .exact gQ c (aEg hc)
   .exact gQ c (aEk hc)
  .have hk:k∈sm.n.kids.take (left+1)++sm.n.kids.drop (left+2):=hk;rcases aDB.1 hk with hk|hk
   .exact b.node.ok.BV k (aEg hk)
   .exact b.node.ok.BV k (aEk hk)
 refine⟨b.u2,⟨hD.ok,(kc sm.page rq).1 b.node.bS,YD,d.lr,d.ff,d.yK,d.yJ,_,d.px,_,Ctx.kept (G:=G) (G':=(G.put pf (.node (dB first sep second))).drop pn) rfl b.ctx (kc.sub λx hx=>WH),⟨rfl,fk⟩,?_,b.total⟩,?_,hD.free⟩
 .have hP:(pn::(sm.page::((d.pa++((pf::(d.q1++d.q2))++d.pb))++d.px))).Perm (pf::pn::((d.q1++d.q2)++(sm.page::(d.pa++(d.pb++d.px))))):=by
   refine(aFh.2 λx=>?_);simp only[aFp,aFB];omega
  exact(aDG.1 (hP.nodup_iff.2 Gi)).2
 .have:=b.node.size;rw[cc,b.inner]at this;rw[cc];have h1:=ij false sm.n.cells left
  have h2:(cR false (sm.n.cells.drop (left+1))).length<=(cR false (sm.n.cells.drop left)).length:=by
   rw[aDN hl,fx,aDw];omega
  have h3:=qW sm.n.kids (left+1)
  have h4:(eK (sm.n.kids.drop (left+2))).length<=(eK (sm.n.kids.drop (left+1))).length:=by
   rw[aDN (show left+1<sm.n.kids.length from pX)];show _<=(eK (_::sm.n.kids.drop (left+2))).length;rw[nX,aDw];omega
  have e:(tM sm.n left).cells.length=sm.n.cells.length-1:=by unfold tM;simp;omega
  have h5:(uv (sm.n.cells.length-1)).length<=(uv sm.n.cells.length).length:=vj pX;rw[e];unfold tM;simp only[aDp,aDE,ep,iG,aDw]at this⊢;omega
def Eh {aE:List Nat}{d:tE}(b:uY G h sm l left first second sep pf pn LL aE d)(hG:uX G)(je:aE.Nodup){a c:bg}{s:cn}(H:AE (dB first sep second) a c i s):
 Bo ((G.put pf (.node a)).put pn (.node c)) (h+1) sm.page l (jr sm.n left s) LL/\(jr sm.n left s).size<=600/\(G.put pf (.node a)).bS pn/\((G.put pf (.node a)).put pn (.node c)).cP=G.cP:=by
 obtain⟨s48,hl,qA,c0,PU,xj⟩:=uT b;obtain⟨j1,j2,j3⟩:=b.c1.join b.c2 b.ok1 b.ok2 s48;have Bb:s.length<=48:=by rw[H.key];exact(j2.cell _ (aDL ..)).key
 obtain⟨L1,q1,L2,q2,c1,c2,eL,eq⟩:=j1.cut j2 H;have Gi:=b.perm.nodup_iff.2 je;rw[eq]at Gi;have xg:=Gi;simp only[aDG,aDB,aDs,aEM,aEn]at xg;obtain⟨⟨x1,⟨x2,x3⟩,x4,x5,x6,x7⟩,⟨⟨x8,x9⟩,df,da,dv,dd⟩,-⟩:=xg;have kp:∀ps,pf∉ps->pn∉ps->Kept G ((G.put pf (.node a)).put pn (.node c)) ps:=λps y1 y2=>(lM y1).trans (lM y2)
 have sa:Sub ((G.put pf (.node a)).put pn (.node c)) h pf d.IK (some s) L1 (pf::q1):=
  ⟨a,q1,⟨b.u1,(Ip _ _ _ _ x1).trans (mz _ _ _),H.Xv,H.szA,.inr H.neA⟩,c1.kept (kp _ x2 x8),rfl⟩
 have sc:Sub ((G.put pf (.node a)).put pn (.node c)) h pn s d.xW L2 (pn::q2):=
  ⟨c,q2,⟨b.u2,mz _ _ _,H.okB,H.szB,.inr H.neB⟩,c2.kept (kp _ x3 x9),rfl⟩
 have kc:Kept G ((G.put pf (.node a)).put pn (.node c)) (sm.page::(d.pa++(d.pb++d.px))):=kp _ abd abe;have ka:=b.kl.mono (S':=Sub ((G.put pf (.node a)).put pn (.node c)) h) λ_ _ _ _ qq hq hS=>hS.kept (kc.sub λx hx=>WG);have kb:=b.kr.mono (S':=Sub ((G.put pf (.node a)).put pn (.node c)) h) λ_ _ _ _ qq hq hS=>hS.kept (kc.sub λx hx=>WG);obtain⟨nt,YT⟩:=aDD.1 b.O0;obtain⟨kW,anI⟩:=aDD.1 b.Tc
 have fk:bZ (Sub ((G.put pf (.node a)).put pn (.node c)) h) (jr sm.n left s).kids (jr sm.n left s).fh d.lr d.ff (d.La++((L1++L2)++d.Lb)) (d.pa++(((pf::q1)++(pn::q2))++d.pb)):=by
  have e1:(jr sm.n left s).fh=sm.n.fh.take left++([s]++sm.n.fh.drop (left+1)):=by unfold bg.fh jr;simp[fN,aFc,aEN]
  have e2:(jr sm.n left s).kids=sm.n.kids.take left++([pf,pn]++sm.n.kids.drop (left+2)):=by
   show sm.n.kids=_
   conv=>lhs;rw[<-aEd left sm.n.kids,aDN nt,aDN kW,YT,anI]
   rfl
  rw[e1,e2];exact(bZ.split b.kl.len).2 ⟨d.IK,d.La,d.pa,_,_,ka,bZ.Qc (bZ.cons.2 ⟨L1,_,L2,_,sa,bZ.one.2 ⟨rfl,sc⟩,rfl,rfl⟩) kb,rfl,rfl⟩
 have gQ:∀c∈sm.n.cells,c.ok false:=aaI
 have YD:(jr sm.n left s).ok:=by
  refine Dy Sub.sr rfl (λc hc=>?_) (λk hk=>b.node.ok.BV k hk) fk;have hc:c∈sm.n.cells.take left++fN s::sm.n.cells.drop (left+1):=hc;rcases aDB.1 hc with hc|hc
  .exact gQ c (aEg hc)
  .rcases aDs.1 hc with rfl|hc
   .exact sR Bb
   .exact gQ c (aEk hc)
 refine⟨⟨(hG.put _ _).put _ _,(kc sm.page rq).1 b.node.bS,YD,d.lr,d.ff,d.yK,d.yJ,_,d.px,_,Ctx.kept (G:=G) (G':=(G.put pf (.node a)).put pn (.node c)) rfl b.ctx (kc.sub λx hx=>WH),⟨rfl,fk⟩,?_,by rw[<-eL];exact b.total⟩,?_,b.u2,rfl⟩
 .have hP:(sm.page::((d.pa++(((pf::q1)++(pn::q2))++d.pb))++d.px)).Perm (pf::pn::((q1++q2)++(sm.page::(d.pa++(d.pb++d.px))))):=by
   refine(aFh.2 λx=>?_);simp only[aFp,aFB];omega
  exact hP.nodup_iff.2 Gi
 .have:=b.node.size;rw[cc,b.inner]at this;rw[cc];have h1:=ij false sm.n.cells left
  have h2:(cR false (sm.n.cells.drop (left+1))).length<=(cR false (sm.n.cells.drop left)).length:=by
   rw[aDN hl,fx,aDw];omega
  have h3:=(iU (sR Bb)).2.2 rfl;have e:(jr sm.n left s).cells.length=sm.n.cells.length:=by unfold jr;simp;omega
  rw[e];unfold jr;simp only[aDp,aDE,ep,fx,aDw]at this⊢;omega
end
section
variable {p:bt->Bool}{A B:List bt}{v:List UInt8}
def vD (L:List bt)(key:cn)(v:List UInt8):List bt:=L.filter (λx=>decide (eD x.1 key))++(key,v)::L.filter (λx=>decide (eD key x.1))
def pO (L:List bt)(key:cn):List bt:=L.filter (λx=>decide (eD x.1 key))++L.filter (λx=>decide (eD key x.1))
def lA (L:List bt)(key:cn):Option (List UInt8):=(L.find? λx=>decide (x.1=key)).map (·.2)
def uS {L:List bt}(h:∀x∈L,p x=true):L.filter p=L:=List.filter_eq_self.2 h
def oP {L:List bt}(h:∀x∈L,p x=false):L.filter p=[]:=List.filter_eq_nil_iff.2 λx hx=>by simp[h x hx]
def zD {key:cn}(hA:∀x∈A,eD x.1 key)(hB:∀x∈B,eD key x.1):(A++B).filter (λx=>decide (eD x.1 key))=A/\(A++B).filter (λx=>decide (eD key x.1))=B:=by
 rw[aFf,aFf];refine⟨?_,?_⟩
 .rw[uS λx hx=>by simpa using hA x hx,oP λx hx=>by simpa using kU (hB x hx),aEs]
 .rw[oP λx hx=>by simpa using kU (hA x hx),uS λx hx=>by simpa using hB x hx,aDV]
def vT {key:cn}(hA:∀x∈A,eD x.1 key)(hB:∀x∈B,eD key x.1):(A++(key,v)::B).filter (λx=>decide (eD x.1 key))=A/\(A++(key,v)::B).filter (λx=>decide (eD key x.1))=B:=by
 have hk:decide (eD key key)=false:=by simpa using gC key
 rw[aFf,aFf,aEK,aEK];simp only[hk,aDp,aDE];rw[<-aFf,<-aFf];exact zD hA hB
def OA {key:cn}(hA:∀x∈A,eD x.1 key)(hB:∀x∈B,eD key x.1):vD (A++B) key v=A++(key,v)::B:=by
 unfold vD;obtain⟨h1,h2⟩:=zD hA hB;rw[h1,h2]
def Oz {key:cn}{w:List UInt8}(hA:∀x∈A,eD x.1 key)(hB:∀x∈B,eD key x.1):vD (A++(key,w)::B) key v=A++(key,v)::B:=by
 unfold vD;obtain⟨h1,h2⟩:=vT (v:=w) hA hB;rw[h1,h2]
def QE {key:cn}{w:List UInt8}(hA:∀x∈A,eD x.1 key)(hB:∀x∈B,eD key x.1):pO (A++(key,w)::B) key=A++B:=by
 unfold pO;obtain⟨h1,h2⟩:=vT (v:=w) hA hB;rw[h1,h2]
def QF {key:cn}(hA:∀x∈A,eD x.1 key)(hB:∀x∈B,eD key x.1):pO (A++B) key=A++B:=by
 unfold pO;obtain⟨h1,h2⟩:=zD hA hB;rw[h1,h2]
def Qe {key:cn}{w:List UInt8}(hA:∀x∈A,eD x.1 key):lA (A++(key,w)::B) key=some w:=by
 unfold lA;rw[List.find?_append]
 have:A.find? (λx=>decide (x.1=key))=none:=by
  rw[List.find?_eq_none];intro x hx;simpa using (hA x hx).ne
 rw[this];simp
def Qf {key:cn}(hA:∀x∈A,eD x.1 key)(hB:∀x∈B,eD key x.1):lA (A++B) key=none:=by
 unfold lA
 have:(A++B).find? (λx=>decide (x.1=key))=none:=by
  rw[List.find?_eq_none];intro x hx;rcases aDB.1 hx with hx|hx
  .simpa using (hA x hx).ne
  .simpa using aEr (hB x hx).ne
 rw[this];rfl
def uW (G:GM)(key:cn)(f:cV)(rest:List cV)(L:List bt):Prop:=
 ∃lo hi Ll Lr Lm ps q,Ctx G 0 rest f.page lo hi Ll Lr ps/\nf G f.page f.n/\ve G 0 f.n lo hi Lm q/\kh lo key/\DD key hi/\(f.page::(q++ps)).Nodup/\Ll++(Lm++Lr)=L/\f.at_=f.n.find key
structure om (G:GM)(key:cn)(f:cV)(rest:List cV)(L:List bt)(lo:cn)(hi:Option cn)(Ll Lr:List bt)(ps:List Nat)(Lt:List bt)(pt:List Nat)(Ld:List bt)(pd:List Nat):Prop where
 ctx:Ctx G 0 rest f.page lo hi Ll Lr ps
 node:nf G f.page f.n
 leaf:f.n.leaf=true
 lt:DD lo hi
 klo:kh lo key
 khi:DD key hi
 nd:(f.page::((pt++pd)++ps)).Nodup
 total:Ll++((Lt++Ld)++Lr)=L
 at_:f.at_=f.n.find key
 le:f.at_<=f.n.cells.length
 cl:eU G (f.n.cells.take f.at_) Lt pt
 cd:eU G (f.n.cells.drop f.at_) Ld pd
 Eg:∀c∈f.n.cells,kh lo c.key/\DD c.key hi
 kt:∀x∈Lt,eD x.1 key
 kd:∀x∈Ld,kh key x.1
 kl:∀x∈Ll,eD x.1 key
 kr:∀x∈Lr,eD key x.1
def Ta {key:cn}{hi:Option cn}{k:cn}(h:DD key hi)(h2:leh hi k):eD key k:=by
 cases hi with
 |none=>exact h2.elim
 |some m=>have h:eD key m:=h;exact h.jY h2
def oM {G:GM}{cs:List dh}{L:List bt}{ps:List Nat}(h:eU G cs L ps){x:bt}(hx:x∈L):∃c∈cs,c.key=x.1:=by
 have:x.1∈cs.map (·.key):=by rw[<-h.keys];exact aEA hx
 obtain⟨c,hc,e⟩:=aDR.1 this;exact⟨c,hc,e⟩
def uW.DH {G:GM}{key:cn}{f:cV}{rest:List cV}{L:List bt}(h:uW G key f rest L):∃lo hi Ll Lr ps Lt pt Ld pd,om G key f rest L lo hi Ll Lr ps Lt pt Ld pd:=by
 obtain⟨lo,hi,Ll,Lr,Lm,ps,q,h1,h2,⟨c1,c2,c3,c4⟩,h4,h5,h6,h7,h8⟩:=h;obtain⟨g1,g2,g3⟩:=qF h2.ok.sorted key;rw[<-h8]at g1 g2 g3;rw[<-aEd f.at_ f.n.cells]at c3;obtain⟨Lt,pt,Ld,pd,d1,d2,rfl,rfl⟩:=eU.append.1 c3;obtain⟨s1,s2⟩:=h1.ach;refine⟨lo,hi,Ll,Lr,ps,Lt,pt,Ld,pd,h1,h2,c1,c2,h4,h5,h6,h7,h8,g1,d1,d2,c4,λx hx=>?_,λx hx=>?_,λx hx=>(s1 x hx).jY h4,λx hx=>Ta h5 (s2 x hx)⟩
 .obtain⟨c,hc,e⟩:=oM d1 hx;rw[<-e];exact g2 c hc
 .obtain⟨c,hc,e⟩:=oM d2 hx;rw[<-e];exact g3 c hc
section
variable {G:GM} {key:cn} {f:cV} {rest:List cV} {L:List bt} {lo:cn} {hi:Option cn} {Ll Lr:List bt} {ps:List Nat} {Lt:List bt} {pt:List Nat} {Ld:List bt} {pd:List Nat}
def om.found (h:om G key f rest L lo hi Ll Lr ps Lt pt Ld pd){c:dh}(hc:f.n.cells[f.at_]?=some c)(hk:c.key=key):∃w po wz AK,Cw G c w po/\eU G (f.n.cells.drop (f.at_+1)) wz AK/\Ld=(key,w)::wz/\pd=po++AK/\(∀x∈wz,eD key x.1)/\lA L key=some w:=by
 obtain⟨hl,qC⟩:=aDD.1 hc;have hd:=h.cd;rw[aDN hl,qC]at hd;obtain⟨w,po,wz,AK,a,b,rfl,rfl⟩:=hd
 have Cg:∀x∈wz,eD key x.1:=λx hx=>by
  obtain⟨c',oZ,e⟩:=oM b hx;have:=(uy h.node.ok.sorted hl).2.2 c' oZ;rw[qC,hk]at this;rw[<-e];exact this
 refine⟨w,po,wz,AK,a,b,by rw[hk],rfl,Cg,?_⟩;rw[<-h.total];have e:Ll++((Lt++(c.key,w)::wz)++Lr)=(Ll++Lt)++(key,w)::(wz++Lr):=by rw[hk];simp
 rw[e]
 exact Qe λx hx=>by
  rcases aDB.1 hx with hx|hx
  .exact h.kl x hx
  .exact h.kt x hx
def om.FW (h:om G key f rest L lo hi Ll Lr ps Lt pt Ld pd)(hn:∀c,f.n.cells[f.at_]?=some c->c.key≠key):(∀x∈Ld,eD key x.1)/\lA L key=none/\pO L key=L:=by
 have Cg:∀x∈Ld,eD key x.1:=λx hx=>by
  rcases qx.1 (h.kd x hx)with h1|h1
  .exact h1
  .obtain⟨c',oZ,e⟩:=oM h.cd hx
   have hl:f.at_<f.n.cells.length:=by
    rcases aEG f.at_ f.n.cells.length with h|h
    .exact h
    .rw[aEa h]at oZ;cases oZ
   rw[aDN hl]at oZ;rcases aDs.1 oZ with e2|oZ
   .exact absurd (by rw[<-e2,e,h1]) (hn _ (aDu hl))
   .have a1:=(uy h.node.ok.sorted hl).2.2 c' oZ;rw[e,<-h1]at a1
    have a2:kh key f.n.cells[f.at_].key:=by
     obtain⟨_,_,g3⟩:=qF h.node.ok.sorted key;rw[<-h.at_]at g3;exact g3 _ (by rw[aDN hl];exact aEw)
    exact absurd a1 a2
 have e:L=(Ll++Lt)++(Ld++Lr):=by rw[<-h.total];simp
 have hA:∀x∈Ll++Lt,eD x.1 key:=λx hx=>by
  rcases aDB.1 hx with hx|hx
  .exact h.kl x hx
  .exact h.kt x hx
 have hB:∀x∈Ld++Lr,eD key x.1:=λx hx=>by
  rcases aDB.1 hx with hx|hx
  .exact Cg x hx
  .exact h.kr x hx
 rw[e];exact⟨Cg,Qf hA hB,QF hA hB⟩
def ft (l:List dh):bg:=⟨true,l,[]⟩
def BS {G2:GM}(h:om G key f rest L lo hi Ll Lr ps Lt pt Ld pd)(hG:uX G2)(Ge:G2.root=G.root){cm:List dh}{Lm:List bt}{pm:List Nat}{k:Nat}{wz:List bt}{po AK:List Nat}(hd:eU G (f.n.cells.drop (f.at_+k)) wz AK)(Vp:pd=po++AK)
 (hK:∀qs,(∀x∈qs,G.bS x/\x∉po)->Kept G G2 qs) (TW:eU G2 cm Lm pm) (TC:∀c∈cm,c.key=key/\c.ok true) (zU:cm.length<=1) (hpm:pm.Nodup) (iZ:∀x∈pm,¬(G.bS x/\x∉po)) (Cg:∀x∈wz,eD key x.1):
 Bo G2 0 f.page rest (ft (f.n.cells.take f.at_++(cm++f.n.cells.drop (f.at_+k)))) (Ll++((Lt++(Lm++wz))++Lr)):=by
 subst Vp;have je:=h.nd
 have hu:∀x∈pt++(AK++(f.page::ps)),G.bS x/\x∉po:=λx hx=>by
  have xg:=je;simp only[aDG,aDB,aEM,aEn]at xg;obtain⟨⟨⟨n1,n2,n3⟩,n4⟩,⟨n5,⟨n6,n7,n8⟩,n9⟩,LR,MX⟩:=xg;simp only[aDB,aDs]at hx;rcases hx with hx|hx|rfl|hx
  .exact⟨h.cl.aE x hx,λh=>n9 x hx x (.inl h) rfl⟩
  .exact⟨hd.aE x hx,λh=>n8 x h x hx rfl⟩
  .exact⟨h.node.bS,n2⟩
  .exact⟨h.ctx.aE x hx,λh=>MX x (.inr (.inl h)) x hx rfl⟩
 have gQ:∀c∈f.n.cells,c.ok true:=by have:=h.node.ok.cell;rw[h.leaf]at this;exact this
 obtain⟨g1,g2,g3⟩:=qF h.node.ok.sorted key;rw[<-h.at_]at g1 g2 g3
 have aeB:∀c∈f.n.cells.drop (f.at_+k),eD key c.key:=λc hc=>by
  have:c.key∈(f.n.cells.drop (f.at_+k)).map (·.key):=aEA hc;rw[<-hd.keys]at this;obtain⟨x,hx,e⟩:=aDR.1 this;rw[<-e];exact Cg x hx
 have Gu:key.length<=48\/cm=[]:=by
  cases cm with
  |nil=>exact .inr rfl
  |cons c cm=>left;obtain⟨a,b⟩:=TC c rq;rw[<-a];exact b.key
 refine⟨hG,(hK [f.page] (λx hx=>hu x adj) f.page rq).1 h.node.bS,⟨λc hc=>?_,?_,rfl,by simp[ft]⟩,lo,hi,Ll,Lr,_,ps,pt++(pm++AK),Ctx.kept (G:=G) Ge h.ctx (hK ps λx hx=>hu x WH),⟨rfl,h.lt,?_,λc hc=>?_⟩,?_,rfl⟩
 .rcases aDB.1 hc with hc|hc
  .exact gQ c (aEg hc)
  .rcases aDB.1 hc with hc|hc
   .exact(TC c hc).2
   .exact gQ c (aEk hc)
 .show(f.n.cells.take f.at_++(cm++f.n.cells.drop (f.at_+k))).Pairwise _
  have aoy:cm.Pairwise λa b=>eD a.key b.key:=by
   cases cm with
   |nil=>simp
   |cons c cm=>cases cm with
    |nil=>simp
    |cons d cm=>simp at zU
  refine aFv.2 ⟨qa h.node.ok.sorted _,aFv.2 ⟨aoy,qb h.node.ok.sorted _,λa ha b hb=>by rw[(TC a ha).1];exact aeB b hb⟩,λa ha b hb=>?_⟩;rcases aDB.1 hb with hb|hb
  .rw[(TC b hb).1];exact g2 a ha
  .exact kT (g2 a ha) (aeB b hb)
 .exact eU.append.2 ⟨Lt,pt,_,_,h.cl.kept (hK pt λx hx=>hu x WH),eU.append.2 ⟨Lm,pm,wz,AK,TW,hd.kept (hK AK λx hx=>hu x WH),rfl,rfl⟩,rfl,rfl⟩
 .have hc:c∈f.n.cells.take f.at_++(cm++f.n.cells.drop (f.at_+k)):=hc;rcases aDB.1 hc with hc|hc
  .exact h.Eg c (aEg hc)
  .rcases aDB.1 hc with hc|hc
   .rw[(TC c hc).1];exact⟨h.klo,h.khi⟩
   .exact h.Eg c (aEk hc)
 .have xg:(f.page::((pt++AK)++ps)).Nodup:=by
   refine List.Sublist.nodup ?_ je;refine List.Sublist.cons_cons _ (List.Sublist.append (List.Sublist.append (List.Sublist.refl _) (List.sublist_append_right _ _)) (List.Sublist.refl _))
  have hP:(f.page::((pt++(pm++AK))++ps)).Perm (pm++(f.page::((pt++AK)++ps))):=by
   refine(aFh.2 λx=>?_);simp only[aFp,aFB];omega
  refine hP.nodup_iff.2 (aEn.2 ⟨hpm,xg,λa ha b hb e=>iZ a ha (hu a ?_)⟩);subst e;simp only[aDs,aDB]at hb⊢;rcases hb with h|(h|h)|h<;>simp[h]
end
end
