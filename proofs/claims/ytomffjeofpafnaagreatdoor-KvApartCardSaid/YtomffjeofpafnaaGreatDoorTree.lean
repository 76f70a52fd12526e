import Derived.Test.YtomffjeofpafnaaGreatDoorLimG
namespace Lim
open Go
noncomputable section
set_option linter.defProp false
abbrev cn:=List UInt8
def eQ (a b:cn):Prop:=Op.bytesLess a b=true
instance (a b:cn):Decidable (eQ a b):=by unfold eQ;infer_instance
def lp (a b:cn):Prop:=¬eQ b a
instance (a b:cn):Decidable (lp a b):=by unfold lp;infer_instance
def sM (a b:UInt8)(x y:cn):eQ (a::x) (b::y)↔a<b\/(a=b/\eQ x y):=by
 unfold eQ;simp[Op.bytesLess]
def jK (a:cn):¬eQ a []:=by unfold eQ;cases a<;>simp[Op.bytesLess]
def Ej (a:UInt8)(x:cn):eQ [] (a::x):=by unfold eQ;simp[Op.bytesLess]
def jM (a:cn):¬eQ a a:=by
 induction a with
 |nil=>exact jK _
 |cons a x ih=>rw[sM];rintro(h|⟨_,h⟩);exact absurd h (UInt8.lt_irrefl a);exact ih h
def jl {a b c:cn}(h:eQ a b)(k:eQ b c):eQ a c:=by
 induction a generalizing b c with
 |nil=>cases c with
  |nil=>exact absurd k (jK _)
  |cons c z=>exact Ej _ _
 |cons a x ih=>
  cases b with
  |nil=>exact absurd h (jK _)
  |cons b y=>
   cases c with
   |nil=>exact absurd k (jK _)
   |cons c z=>
    rw[sM]at*;rcases h with h|⟨rfl,h⟩<;>rcases k with k|⟨rfl,k⟩
    .exact .inl (UInt8.lt_trans h k)
    .exact .inl h
    .exact .inl k
    .exact .inr ⟨rfl,ih h k⟩
def M9 (a b:cn):eQ a b\/a=b\/eQ b a:=by
 induction a generalizing b with
 |nil=>cases b with
  |nil=>exact .inr (.inl rfl)
  |cons b y=>exact .inl (Ej _ _)
 |cons a x ih=>
  cases b with
  |nil=>exact .inr (.inr (Ej _ _))
  |cons b y=>
   rw[sM,sM];rcases Nat.lt_trichotomy a.toNat b.toNat with h|h|h
   .exact .inl (.inl (UInt8.lt_iff_toNat_lt.2 h))
   .have e:=UInt8.toNat_inj.1 h;subst e;rcases ih y with h|rfl|h
    .exact .inl (.inr ⟨rfl,h⟩)
    .exact .inr (.inl rfl)
    .exact .inr (.inr (.inr ⟨rfl,h⟩))
   .exact .inr (.inr (.inl (UInt8.lt_iff_toNat_lt.2 h)))
def mc {a b:cn}(h:eQ a b):¬eQ b a:=λk=>jM _ (jl h k)
def As (a:cn):lp a a:=jM a
def eQ.le {a b:cn}(h:eQ a b):lp a b:=mc h
def pv {a b:cn}:lp a b↔eQ a b\/a=b:=by
 constructor
 .intro h;rcases M9 a b with h1|h1|h1;exact .inl h1;exact .inr h1;exact absurd h1 h
 .rintro(h|rfl);exact h.le;exact As _
def lp.zE {a b c:cn}(h:lp a b)(k:eQ b c):eQ a c:=by
 rcases pv.1 h with h|rfl;exact jl h k;exact k
def eQ.ko {a b c:cn}(h:eQ a b)(k:lp b c):eQ a c:=by
 rcases pv.1 k with k|rfl;exact jl h k;exact h
def lp.trans {a b c:cn}(h:lp a b)(k:lp b c):lp a c:=by
 rcases pv.1 k with k|rfl;exact(h.zE k).le;exact h
def CI (a b:cn):lp a b\/eQ b a:=by by_cases h:eQ b a;exact .inr h;exact .inl h
def KX (a:cn):lp [] a:=jK a
def eQ.ne {a b:cn}(h:eQ a b):a≠b:=λe=>by subst e;exact jM _ h
def wH {a b:cn}(h:lp a b)(k:lp b a):a=b:=by
 rcases pv.1 h with h|h;exact absurd h k;exact h
def Lh (a b:cn):Op.bytesLess a b=decide (eQ a b):=by
 by_cases h:eQ a b
 .rw[aEV h];exact h
 .rw[aEO h];simpa[eQ]using h
def Y0 (a b:cn):(Op.bytesLess a b||(a==b))=decide (lp a b):=by
 rw[Lh,aGU];simp[pv]
def aaM (a b:cn):(!(Op.bytesLess a b))=decide (lp b a):=by rw[aGU];simp[lp,eQ]
@[simp] def Qb (a b:cn)(st:St):sF .lss a b st=.ok (.bool (decide (eQ a b))) st:=by rw[<-Lh];rfl
@[simp] def Qc (a b:cn)(st:St):sF .leq a b st=.ok (.bool (decide (lp a b))) st:=by rw[<-Y0];rfl
@[simp] def wh (a b:cn)(st:St):sF .geq a b st=.ok (.bool (decide (lp b a))) st:=by rw[<-aaM];rfl
@[simp] def lA (a b:cn)(st:St):sF .eql a b st=.ok (.bool (decide (a=b))) st:=by
  have:(a==b)=decide (a=b):=by rw[aGU];simp
  rw[<-this];rfl
@[simp] def nX (a b:cn)(st:St):sF .neq a b st=.ok (.bool (!decide (a=b))) st:=by
  have:(a==b)=decide (a=b):=by rw[aGU];simp
  rw[<-this];rfl
structure dh where
 key:cn
 value:List UInt8
 dU:Nat
 size:Nat
deriving DecidableEq
structure bp where
 leaf:Bool
 cells:List dh
 kids:List Nat
deriving DecidableEq
def iq (leaf:Bool)(c:dh):List UInt8:=
 uv c.key.length++(c.key++(if leaf=true then (if c.dU=0 then uv 0++(uv c.value.length++c.value)else uv c.dU++uv c.size)else []))
def cT (leaf:Bool)(l:List dh):List UInt8:=(l.map (iq leaf)).flatten
def eY (l:List Nat):List UInt8:=(l.map uv).flatten
def mG (n:bp):List UInt8:=uv (if n.leaf=true then 1 else 0)++(uv n.cells.length++(cT n.leaf n.cells++(if n.leaf=true then []else eY n.kids)))
def bp.size (n:bp):Nat:=(mG n).length
abbrev qZ:Nat:=2147483647
structure dh.ok (leaf:Bool)(c:dh):Prop where
 key:c.key.length<=48
 inner:leaf=false->c.value=[]/\c.dU=0/\c.size=0
 short:leaf=true->c.dU=0->c.size=0/\c.value.length<=64
 far:leaf=true->c.dU≠0->c.value=[]/\c.dU<=qZ/\1<=c.size/\c.size<=qZ
def iS (l:List dh):Prop:=l.Pairwise λa b=>eQ a.key b.key
structure bp.ok (n:bp):Prop where
 cell:∀c∈n.cells,c.ok n.leaf
 sorted:iS n.cells
 jw:n.kids.length=if n.leaf=true then 0 else n.cells.length+1
 CK:∀k∈n.kids,k<=qZ
def zC (n:Nat):1<=(uv n).length:=by by_cases hu:127<n;rw[iR hu];simp;rw[jD qE];simp
def eM {n:Nat}(h:n<=127):(uv n).length=1:=by rw[jD h];rfl
def qF {n:Nat}(h:n<=16383):(uv n).length<=2:=by
 by_cases hu:127<n
 .rw[iR hu,aFp,eM qE];omega
 .rw[eM qE];omega
def vT {m n:Nat}(h:m<=n):(uv m).length<=(uv n).length:=by
 induction n using Nat.strongRecOn generalizing m with
 |_ n ih=>
  by_cases hm:127<m
  .have hn:127<n:=by omega
   rw[iR hm,iR hn,aFp,aFp];have:= @ih (n/128) qE (m/128) (Nat.div_le_div_right h);omega
  .rw[eM qE];exact zC n
def iD {leaf:Bool}{c:dh}(h:c.ok leaf):1<=(iq leaf c).length/\(iq leaf c).length<=115/\(leaf=false->(iq leaf c).length<=49):=by
 have h1:(uv c.key.length).length=1:=eM (by have:=h.key;omega);have h2:=h.key;cases leaf with
 |false=>unfold iq;simp;omega
 |true=>
  unfold iq
  by_cases h0:c.dU=0
  .obtain⟨h3,h4⟩:=h.short rfl h0;have h5:(uv c.value.length).length=1:=eM qE;have h6:(uv 0).length=1:=eM qE;simp[h0];omega
  .obtain⟨h3,h4,h5,h6⟩:=h.far rfl h0;have h7:=(kh c.dU h4).2;have h8:=(kh c.size h6).2;simp[h0];omega
def eE (leaf:Bool)(a b:List dh):cT leaf (a++b)=cT leaf a++cT leaf b:=by simp[cT]
def fC (leaf:Bool)(c:dh)(b:List dh):cT leaf (c::b)=iq leaf c++cT leaf b:=by simp[cT]
def iV (a b:List Nat):eY (a++b)=eY a++eY b:=acV
def ot (k:Nat)(b:List Nat):eY (k::b)=uv k++eY b:=acV
def eC (leaf:Bool)(l:List dh):l.length<=(cT leaf l).length:=by
 induction l with
 |nil=>simp
 |cons c l ih=>
  rw[fC,aEU,aFp];have:=zC c.key.length;have:1<=(iq leaf c).length:=by unfold iq;rw[aEU];omega
  omega
def ck (n:bp):n.size=1+((uv n.cells.length).length+((cT n.leaf n.cells).length+(if n.leaf=true then 0 else (eY n.kids).length))):=by
 unfold bp.size mG;have:(uv (if n.leaf=true then 1 else 0)).length=1:=eM abJ;rw[aEU,aEU,aEU,this]
 split<;>simp
def bp.find (n:bp)(key:cn):Nat:=n.cells.findIdx λc=>decide (lp key c.key)
def cQ (n:bp)(i:Nat):bp×cn×bp:=
 if n.leaf=true then (⟨true,n.cells.take i,[]⟩,(n.cells[i]?.map (·.key)).getD [],⟨true,n.cells.drop i,[]⟩)
 else (⟨false,n.cells.take i,n.kids.take (i+1)⟩,(n.cells[i]?.map (·.key)).getD [],⟨false,n.cells.drop (i+1),n.kids.drop (i+1)⟩)
def gR (n:bp)(i:Nat):Nat:=((cQ n i).1.size-(cQ n i).2.2.size)+((cQ n i).2.2.size-(cQ n i).1.size)
def tp (n:bp):Nat->Nat->Nat->Nat
 |0,_,b=>b
 |f+1,i,b=>tp n f (i+1) (if gR n i<gR n b then i else b)
def cG (n:bp):Nat:=if n.leaf=true then 1 else 0
def ik (n:bp):Nat:=tp n (n.cells.length-(cG n+1)) (cG n+1) (cG n)
def xS (n:bp):bp×cn×bp:=cQ n (ik n)
def fW (k:cn):dh:=⟨k,[],0,0⟩
def dG (a:bp)(sep:cn)(b:bp):bp:=if a.leaf=true then ⟨true,a.cells++b.cells,[]⟩else ⟨false,a.cells++(fW sep::b.cells),a.kids++b.kids⟩
def Kq (n:bp)(f:Nat):∀(i b:Nat),b<i->(tp n f i b=b\/(i<=tp n f i b/\tp n f i b<i+f))/\gR n (tp n f i b)<=gR n b/\∀j,i<=j->j<i+f->gR n (tp n f i b)<=gR n j:=by
 induction f with
 |zero=>intro i b hb;exact⟨.inl rfl,aEQ _,λj h1 h2=>qE⟩
 |succ f ih=>
  intro i b hb;simp only[tp];obtain⟨h1,h2,h3⟩:=ih (i+1) (if gR n i<gR n b then i else b) abJ;generalize hr:tp n f (i+1) (if gR n i<gR n b then i else b)=r at*
  by_cases hc:gR n i<gR n b
  .rw[aEW hc]at h1 h2;refine⟨.inr qE,qE,λj h4 h5=>?_⟩;rcases aHe h4 with rfl|h6
   .exact h2
   .exact h3 j h6 qE
  .rw[aET hc]at h1 h2;refine⟨qE,h2,λj h4 h5=>?_⟩;rcases aHe h4 with rfl|h6
   .omega
   .exact h3 j h6 qE
def yF (n:bp)(h:cG n<n.cells.length):cG n<=ik n/\ik n<n.cells.length/\∀j,cG n<=j->j<n.cells.length->gR n (ik n)<=gR n j:=by
 obtain⟨h1,h2,h3⟩:=Kq n (n.cells.length-(cG n+1)) (cG n+1) (cG n) (Nat.lt_succ_self _);unfold ik;refine⟨qE,qE,λj h4 h5=>?_⟩;rcases aHe h4 with rfl|h6
 .exact h2
 .exact h3 j h6 qE
section
variable {l:List dh}{α:Type}{n:bp}
def nM {leaf:Bool}(h:∀c∈l,c.ok leaf):(cT leaf l).length<=l.length*115:=by
 induction l with
 |nil=>simp[cT]
 |cons c l ih=>
  rw[fC,aEU,aFp];have:=(iD (h c uG)).2.1;have:=ih λc hc=>h c (by simp[hc]);omega
def qf {l:List Nat}(h:∀k∈l,k<=qZ):(eY l).length<=l.length*5:=by
 induction l with
 |nil=>simp[eY]
 |cons k l ih=>
  rw[ot,aEU,aFp];have:=(kh k (h k uG)).2;have:=ih λc hc=>h c (by simp[hc]);omega
def zF (l:List α)(i:Nat)(h:i<l.length):l.take (i+1)=l.take i++[l[i]]:=aFe h
def wV (l:List α)(i:Nat)(h:i<l.length):l.drop i=l[i]::l.drop (i+1):=aFk h
structure Ii (n:bp):Prop where
 up:∀i,cG n<=i->i+1<n.cells.length->(cQ n (i+1)).1.size<=(cQ n i).1.size+116
 down:∀i,cG n<=i->i+1<n.cells.length->(cQ n i).2.2.size<=(cQ n (i+1)).2.2.size+116
 sum:∀i,cG n<=i->i<n.cells.length->n.size<=(cQ n i).1.size+(cQ n i).2.2.size+49/\(cQ n i).1.size+(cQ n i).2.2.size<=n.size+4
 head:cG n<n.cells.length->(cQ n (cG n)).1.size<=if n.leaf=true then 117 else 7
 last:∀i,cG n<=i->i+1=n.cells.length->(cQ n i).2.2.size<=if n.leaf=true then 117 else 7
def Sy (h:n.ok)(hs:n.cells.length<=16000):Ii n:=by
 obtain⟨leaf,cells,kids⟩:=n;have hc:=h.cell;have hk:=h.jw;have Xw:=h.CK;simp only at hc hk Xw hs;have u2:∀i,i<=16383->1<=(uv i).length/\(uv i).length<=2:=λi hi=>⟨zC i,qF hi⟩;cases leaf with
 |true=>
  have e1:∀i,(cQ ⟨true,cells,kids⟩ i).1=⟨true,cells.take i,[]⟩:=λi=>rfl;have e2:∀i,(cQ ⟨true,cells,kids⟩ i).2.2=⟨true,cells.drop i,[]⟩:=λi=>rfl;have hf:cG ⟨true,cells,kids⟩=1:=rfl
  have Ng:∀i,(cT true (cells.take i)).length+(cT true (cells.drop i)).length=(cT true cells).length:=λi=>by
   rw[<-aEU,<-eE,aFD]
  refine⟨λi h1 h2=>?_,λi h1 h2=>?_,λi h1 h2=>?_,λh1=>?_,λi h1 h2=>?_⟩
  .simp only at h2;rw[e1,e1,ck,ck];simp only[aFm,aFc];rw[zF cells i qE,eE,aEU];have h3:=(iD (hc _ (aFj (show i<cells.length from qE)))).2.1;have h4:(cT true [cells[i]' qE]).length=(iq true (cells[i]' qE)).length:=by simp[cT]
   have:=u2 (min (i+1) cells.length) qE;have:=u2 (min i cells.length) qE;omega
  .simp only at h2;rw[e2,e2,ck,ck];simp only[aFm,aFn];rw[wV cells i qE,fC,aEU];have h3:=(iD (hc _ (aFj (show i<cells.length from qE)))).2.1;have:=u2 (cells.length-(i+1)) qE;have:=u2 (cells.length-i) qE;omega
  .simp only at h2;rw[e1,e2,ck,ck,ck];simp only[aFm,aFn,aFc];have:=Ng i;have:=u2 (min i cells.length) qE;have:=u2 (cells.length-i) qE;have:=u2 cells.length qE;omega
  .simp only[hf]at h1;rw[hf,e1,ck];simp only[aFm,aFc];have h5:(cells.take 1).length=1:=by rw[aFc];omega
   have h3:=nM (leaf:=true) (l:=cells.take 1) λc h=>hc c (aFz h);rw[h5]at h3;have:(uv (min 1 cells.length)).length=1:=eM qE;omega
  .simp only[hf]at h1;simp only at h2;rw[e2,ck];simp only[aFm,aFn];have h5:(cells.drop i).length=1:=by rw[aFn];omega
   have h3:=nM (leaf:=true) (l:=cells.drop i) λc h=>hc c (aFF h);rw[h5]at h3;have:(uv (cells.length-i)).length=1:=eM qE;omega
 |false=>
  simp only[aEM,aFa]at hk;have e1:∀i,(cQ ⟨false,cells,kids⟩ i).1=⟨false,cells.take i,kids.take (i+1)⟩:=λi=>rfl;have e2:∀i,(cQ ⟨false,cells,kids⟩ i).2.2=⟨false,cells.drop (i+1),kids.drop (i+1)⟩:=λi=>rfl;have hf:cG ⟨false,cells,kids⟩=0:=rfl
  have Ng:∀i (h:i<cells.length),(cT false (cells.take i)).length+((iq false cells[i]).length+(cT false (cells.drop (i+1))).length)=(cT false cells).length:=λi h=>by
   rw[<-aEU,<-fC,<-wV cells i h,<-aEU,<-eE,aFD]
  have afO:∀i,(eY (kids.take i)).length+(eY (kids.drop i)).length=(eY kids).length:=λi=>by
   rw[<-aEU,<-iV,aFD]
  have c49:∀i (h:i<cells.length),1<=(iq false cells[i]).length/\(iq false cells[i]).length<=49:=λi h=>by
   have:=iD (hc _ (aFj h));exact⟨this.1,this.2.2 rfl⟩
  refine⟨λi h1 h2=>?_,λi h1 h2=>?_,λi h1 h2=>?_,λh1=>?_,λi h1 h2=>?_⟩
  .simp only at h2;rw[e1,e1,ck,ck];simp only[aEM,aFa,aFc];rw[zF cells i qE,eE,aEU,zF kids (i+1) qE,iV,aEU];have h3:=c49 i qE;have h4:(cT false [cells[i]' qE]).length=(iq false (cells[i]' qE)).length:=by simp[cT]
   have h6:(eY [kids[i+1]' qE]).length=(uv (kids[i+1]' qE)).length:=acV
   have h7:=(kh _ (Xw _ (aFj (show i+1<kids.length from qE)))).2;have:=u2 (min (i+1) cells.length) qE;have:=u2 (min i cells.length) qE;omega
  .simp only at h2;rw[e2,e2,ck,ck];simp only[aEM,aFa,aFn];rw[wV cells (i+1) qE,fC,aEU,wV kids (i+1) qE,ot,aEU];have h3:=c49 (i+1) qE;have h7:=(kh _ (Xw _ (aFj (show i+1<kids.length from qE)))).2;have:=u2 (cells.length-(i+1+1)) qE;have:=u2 (cells.length-(i+1)) qE;omega
  .simp only at h2;rw[e1,e2,ck,ck,ck];simp only[aEM,aFa,aFn,aFc];have:=Ng i h2;have:=afO (i+1);have:=c49 i h2;have:=u2 (min i cells.length) qE;have:=u2 (cells.length-(i+1)) qE;have:=u2 cells.length qE;omega
  .rw[hf,e1,ck];simp only[aEM,aFa,aFc];have h3:=qf (l:=kids.take (0+1)) λc h=>Xw c (aFz h);have h5:(kids.take (0+1)).length=1:=by rw[aFc];omega
   rw[h5]at h3;have:(uv 0).length=1:=eM qE;simp only[aER]at h3;simp[cT];omega
  .simp only at h2;rw[e2,ck];simp only[aEM,aFa,aFn];have h3:=qf (l:=kids.drop (i+1)) λc h=>Xw c (aFF h);have h5:(kids.drop (i+1)).length=1:=by rw[aFn];omega
   rw[h5]at h3;have:(uv (cells.length-(i+1))).length=1:=eM qE;have:cells.drop (i+1)=[]:=aFu qE;rw[this];simp[cT];omega
def Sx (h:Ii n)(hf:cG n<n.cells.length)(h1:513<=n.size):∃j,cG n<=j/\j<n.cells.length/\gR n j<=232:=by
 have key:∀k,cG n+k<n.cells.length->(cQ n (cG n+k)).1.size<=(cQ n (cG n+k)).2.2.size\/∃j,cG n<=j/\j<n.cells.length/\gR n j<=232:=by
  intro k
  induction k with
  |zero=>
   intro hk;have:=h.head hf;have:(if n.leaf=true then 117 else 7)<=117:=abJ
   have:=(h.sum (cG n) (aEQ _) hf).1;left;simp only[aFC];omega
  |succ k ih=>
   intro hk;rcases ih (by omega)with h2|h2
   .by_cases h3:(cQ n (cG n+(k+1))).1.size<=(cQ n (cG n+(k+1))).2.2.size
    .exact .inl h3
    .right;refine⟨cG n+(k+1),qE,hk,?_⟩;have a1:=h.up (cG n+k) qE qE;have a2:=h.down (cG n+k) qE qE;have e:cG n+(k+1)=cG n+k+1:=by omega
     rw[e]at h3⊢;unfold gR;omega
   .exact .inr h2
 rcases key (n.cells.length-1-cG n) (by omega)with h2|h2
 .have e:cG n+(n.cells.length-1-cG n)=n.cells.length-1:=by omega
  rw[e]at h2;have:=h.last (n.cells.length-1) qE qE;have:(if n.leaf=true then 117 else 7)<=117:=abJ
  have:=(h.sum (n.cells.length-1) qE qE).1;omega
 .exact h2
def qH (h:iS l)(i:Nat):iS (l.take i):=h.sublist (List.take_sublist _ _)
def qI (h:iS l)(i:Nat):iS (l.drop i):=h.sublist (List.drop_sublist _ _)
structure Bk (n a b:bp)(i:Nat)(s:cn):Prop where
 lt:i<n.cells.length
 Ol:a.ok
 okB:b.ok
 szA:a.size<=512
 szB:b.size<=512
 neA:a.cells≠[]
 neB:b.cells≠[]
 key:s=(n.cells[i]'lt).key
 eqs:(n.leaf=true/\a=⟨true,n.cells.take i,[]⟩/\b=⟨true,n.cells.drop i,[]⟩)\/(n.leaf=false/\a=⟨false,n.cells.take i,n.kids.take (i+1)⟩/\b=⟨false,n.cells.drop (i+1),n.kids.drop (i+1)⟩)
def Sw (h:n.ok)(h1:512<n.size)(h2:n.size<=760):∃i,i=ik n/\Bk n (xS n).1 (xS n).2.2 i (xS n).2.1:=by
 have hlen:n.cells.length<=760:=by
  have:=eC n.leaf n.cells;rw[ck]at h2;omega
 have hF:=Sy h qE
 have EI:cG n<n.cells.length:=by
  have a1:=nM (leaf:=n.leaf) (l:=n.cells) h.cell;have a2:=qf (l:=n.kids) h.CK;have a3:=h.jw;have:(uv n.cells.length).length<=2:=qF qE;rw[ck]at h1;unfold cG;cases hl:n.leaf with
  |true=>rw[hl]at h1 a1;simp only[aFm]at h1⊢;omega
  |false=>rw[hl]at h1 a1 a3;simp only[aEM,aFa]at h1 a3⊢;omega
 obtain⟨b1,b2,b3⟩:=yF n EI;obtain⟨j,j1,j2,j3⟩:=Sx hF EI qE;have hb:=b3 j j1 j2;obtain⟨s1,s2⟩:=hF.sum (ik n) b1 b2;have hu:(cQ n (ik n)).1.size<=(cQ n (ik n)).2.2.size+232/\(cQ n (ik n)).2.2.size<=(cQ n (ik n)).1.size+232:=by unfold gR at hb j3;omega
 have aop:cG n<ik n\/n.leaf=true:=by
  rcases aHe b1 with e|e
  .have:=hF.head EI;rw[<-e]at hu s1 s2;cases hl:n.leaf with
   |true=>exact .inr rfl
   |false=>rw[hl,aET u7]at this;omega
  .exact .inl e
 have aoo:ik n+1<n.cells.length\/n.leaf=true:=by
  rcases aHe (show ik n+1<=n.cells.length from b2)with e|e
  .have:=hF.last (ik n) b1 e;cases hl:n.leaf with
   |true=>exact .inr rfl
   |false=>rw[hl,aET u7]at this;omega
  .exact .inl e
 refine⟨ik n,rfl,?_⟩;unfold xS;generalize ik n=i at*;obtain⟨leaf,cells,kids⟩:=n;cases leaf with
 |true=>
  have Hi:1<=i:=b1;simp only at b2;refine⟨b2,⟨λc hc=>h.cell c (aFz hc),qH h.sorted _,rfl,λk hk=>by simp[cQ]at hk⟩,⟨λc hc=>h.cell c (aFF hc),qI h.sorted _,rfl,λk hk=>by simp[cQ]at hk⟩,qE,qE,?_,?_,?_,.inl ⟨rfl,rfl,rfl⟩⟩
  .intro e;have:=congrArg List.length e;simp only[cQ,aFm,aFc,aGu]at this;omega
  .intro e;have:=congrArg List.length e;simp only[cQ,aFm,aFn,aGu]at this;omega
  .simp[cQ,aES b2]
 |false=>
  have Hi:cG ⟨false,cells,kids⟩<i:=by rcases aop with h|h;exact h;cases h
  have Hi:0<i:=Hi;have yz:i+1<cells.length:=by rcases aoo with h|h;exact h;cases h
  have hk:kids.length=cells.length+1:=h.jw;refine⟨b2,⟨λc hc=>h.cell c (aFz hc),qH h.sorted _,?_,λk hk=>h.CK k (aFz hk)⟩,⟨λc hc=>h.cell c (aFF hc),qI h.sorted _,?_,λk hk=>h.CK k (aFF hk)⟩,qE,qE,?_,?_,?_,.inr ⟨rfl,rfl,rfl⟩⟩
  .simp[cQ];omega
  .simp[cQ];omega
  .intro e;have:=congrArg List.length e;simp only[cQ,aEM,aFa,aFc,aGu]at this;omega
  .intro e;have:=congrArg List.length e;simp only[cQ,aEM,aFa,aFn,aGu]at this;omega
  .simp[cQ,aES b2]
end
section
variable {ks:List Nat}{ss:List cn}{ps:List Nat}{k:Nat}{s:cn}{k1 k2:List Nat}{s1 s2:List cn}{kM:cn}
inductive PC where
 |node (n:bp)
 |dU (next:Nat) (data:List UInt8)
 |blank
structure GM where
 aH:Nat
 used:Nat
 root:Nat
 fr:List Nat
 cont:Nat->PC
def GM.bW (G:GM)(n:Nat):Prop:=0<n/\n<G.used/\n∉G.fr
structure uY (G:GM):Prop where
 one:1<=G.used
 jL:G.used<=G.aH
 size:G.aH<=65536
 nd:G.fr.Nodup
 fr:∀n∈G.fr,0<n/\n<G.used
def GM.cF (G:GM):Nat:=G.aH-G.used+G.fr.length
def GM.put (G:GM)(n:Nat)(x:PC):GM:={G with cont:=λq=>if q=n then x else G.cont q}
def GM.dL (G:GM):Nat:=match G.fr with|[]=>G.used|n::_=>n
def GM.alloc (G:GM):GM:=match G.fr with
 |[]=>{G with used:=G.used+1,cont:=λq=>if q=G.used then .blank else G.cont q}
 |n::r=>{G with fr:=r,cont:=λq=>if q=n then .blank else G.cont q}
def GM.drop (G:GM)(n:Nat):GM:={G with fr:=n::G.fr}
def GM.gM (G:GM)(n:Nat):GM:={G with root:=n}
def zZ (G:GM)(n:Nat)(x:PC)(q:Nat):(G.put n x).cont q=if q=n then x else G.cont q:=rfl
def ku (G:GM)(n:Nat)(x:PC):(G.put n x).cont n=x:=by simp[zZ]
def Jm (G:GM)(n:Nat)(x:PC)(q:Nat)(h:q≠n):(G.put n x).cont q=G.cont q:=by simp[zZ,h]
@[simp] def zX (G:GM)(n:Nat)(x:PC):(G.put n x).cF=G.cF:=rfl
def uY.put {G:GM}(h:uY G)(n:Nat)(x:PC):uY (G.put n x):=⟨h.one,h.jL,h.size,h.nd,h.fr⟩
def uY.gM {G:GM}(h:uY G)(n:Nat):uY (G.gM n):=⟨h.one,h.jL,h.size,h.nd,h.fr⟩
structure Mm (G:GM):Prop where
 ok:uY G.alloc
 not:¬G.bW G.dL
 bW:∀q,G.alloc.bW q↔G.bW q\/q=G.dL
 cont:∀q,q≠G.dL->G.alloc.cont q=G.cont q
 root:G.alloc.root=G.root
 free:G.alloc.cF+1=G.cF
 aH:G.alloc.aH=G.aH
 pos:0<G.dL
def ru {G:GM}(h:uY G)(hf:0<G.cF):Mm G:=by
 cases j0:G.fr with
 |nil=>
  have e1:G.alloc={G with used:=G.used+1,cont:=λq=>if q=G.used then .blank else G.cont q}:=by unfold GM.alloc;rw[j0]
  have e2:G.dL=G.used:=by unfold GM.dL;rw[j0]
  have h1:=h.one;unfold GM.cF at hf;rw[j0]at hf;simp at hf;refine⟨?_,?_,?_,?_,?_,?_,?_,?_⟩
  .rw[e1];exact⟨uG,by show G.used+1<=G.aH;omega,h.size,h.nd,λn hn=>by have:=h.fr n hn;show _/\n<G.used+1;omega⟩
  .rw[e2];intro⟨_,h2,_⟩;omega
  .intro q;rw[e1,e2];unfold GM.bW;simp only[j0];simp;omega
  .intro q hq;rw[e1];rw[e2]at hq;simp[hq]
  .rw[e1]
  .rw[e1];unfold GM.cF;simp[j0];omega
  .rw[e1]
  .rw[e2];omega
 |cons n r=>
  have e1:G.alloc={G with fr:=r,cont:=λq=>if q=n then .blank else G.cont q}:=by unfold GM.alloc;rw[j0]
  have e2:G.dL=n:=by unfold GM.dL;rw[j0]
  have ja:=h.nd;rw[j0,aFd]at ja;have hn:=h.fr n (by rw[j0];simp);refine⟨?_,?_,?_,?_,?_,?_,?_,?_⟩
  .rw[e1];exact⟨h.one,h.jL,h.size,ja.2,λm hm=>h.fr m (by rw[j0];simp[show m∈r from hm])⟩
  .rw[e2];intro⟨_,_,h2⟩;rw[j0]at h2;simp at h2
  .intro q;rw[e1,e2];unfold GM.bW;simp only[j0,aEP,aGk];constructor
   .rintro⟨a,b,c⟩
    by_cases hq:q=n
    .exact .inr hq
    .exact .inl ⟨a,b,hq,c⟩
   .rintro(⟨a,b,_,c⟩|rfl)
    .exact⟨a,b,c⟩
    .exact⟨hn.1,hn.2,ja.1⟩
  .intro q hq;rw[e1];rw[e2]at hq;simp[hq]
  .rw[e1]
  .rw[e1];unfold GM.cF;simp[j0];omega
  .rw[e1]
  .rw[e2];exact hn.1
structure Wl (G:GM)(n:Nat):Prop where
 ok:uY (G.drop n)
 bW:∀q,(G.drop n).bW q↔G.bW q/\q≠n
 free:(G.drop n).cF=G.cF+1
def tU {G:GM}(h:uY G){n:Nat}(hn:G.bW n):Wl G n:=by
 refine⟨⟨h.one,h.jL,h.size,?_,?_⟩,?_,?_⟩
 .exact aFd.2 ⟨hn.2.2,h.nd⟩
 .intro q hq;rcases aEP.1 hq with rfl|hq
  .exact⟨hn.1,hn.2.1⟩
  .exact h.fr q hq
 .intro q;show(0<q/\q<G.used/\q∉n::G.fr)↔_;unfold GM.bW;simp only[aEP,aGk];constructor
  .rintro⟨a,b,c,d⟩;exact⟨⟨a,b,d⟩,c⟩
  .rintro⟨⟨a,b,d⟩,c⟩;exact⟨a,b,c,d⟩
 .show G.aH-G.used+(n::G.fr).length=_;unfold GM.cF;simp;omega
abbrev bq:=cn×List UInt8
def pC (G:GM):List Nat->Nat->List UInt8->Prop
 |[],page,v=>page=0/\v=[]
 |p::ps,page,v=>page=p/\v≠[]/\G.bW p/\∃next,G.cont p=.dU next (v.take 480)/\next<=qZ/\pC G ps next (v.drop 480)
def Dl (G:GM)(c:dh)(v:List UInt8)(ps:List Nat):Prop:=
 (c.dU=0/\v=c.value/\ps=[])\/(c.dU≠0/\c.size=v.length/\64<v.length/\v.length<=8192/\pC G ps c.dU v)
def ff (G:GM):List dh->List bq->List Nat->Prop
 |[],L,ps=>L=[]/\ps=[]
 |c::cs,L,ps=>∃v p1 L2 p2,Dl G c v p1/\ff G cs L2 p2/\L=(c.key,v)::L2/\ps=p1++p2
abbrev tx:=Nat->cn->Option cn->List bq->List Nat->Prop
def cz (S:tx):List Nat->List cn->cn->Option cn->List bq->List Nat->Prop
 |[k],[],lo,hi,L,ps=>S k lo hi L ps
 |k::ks,s::ss,lo,hi,L,ps=>∃L1 p1 L2 p2,S k lo (some s) L1 p1/\cz S ks ss s hi L2 p2/\L=L1++L2/\ps=p1++p2
 |_,_,_,_,_,_=>False
def En (k:cn)(hi:Option cn):Prop:=match hi with|none=>True|some h=>eQ k h
def bp.ft (n:bp):List cn:=n.cells.map (·.key)
def GI (G:GM)(n:bp)(lo:cn)(hi:Option cn)(L:List bq)(ps:List Nat):Prop:=n.leaf=true/\En lo hi/\ff G n.cells L ps/\∀c∈n.cells,lp lo c.key/\En c.key hi
def QK (S:tx)(n:bp)(lo:cn)(hi:Option cn)(L:List bq)(ps:List Nat):Prop:=n.leaf=false/\cz S n.kids n.ft lo hi L ps
structure nh (G:GM)(page:Nat)(n:bp):Prop where
 bW:G.bW page
 cont:G.cont page=.node n
 ok:n.ok
 size:n.size<=512
 full:n.leaf=true\/n.cells≠[]
def AtP (G:GM)(C:bp->cn->Option cn->List bq->List Nat->Prop):tx:=λpage lo hi L ps=>∃n q,nh G page n/\C n lo hi L q/\ps=page::q
def vP (G:GM):Nat->bp->cn->Option cn->List bq->List Nat->Prop
 |0=>GI G
 |h+1=>QK (AtP G (vP G h))
def Sub (G:GM)(h:Nat):tx:=AtP G (vP G h)
def qc {a b:cn}{hi:Option cn}(h:eQ a b)(k:En b hi):En a hi:=by cases hi with|none=>trivial|some c=>exact jl h k
section
variable {S S':tx}
def cz.mono {lo:cn}{hi:Option cn}{L:List bq}(h:cz S ks ss lo hi L ps)(hs:∀k lo hi L q,(∀x∈q,x∈ps)->S k lo hi L q->S' k lo hi L q):cz S' ks ss lo hi L ps:=by
 induction ks generalizing ss lo L ps with
 |nil=>cases ss<;>exact h.elim
 |cons k ks ih=>
  cases ss with
  |nil=>cases ks with
   |nil=>exact hs _ _ _ _ _ (λx hx=>hx) h
   |cons k2 ks=>exact h.elim
  |cons s ss=>
   obtain⟨L1,p1,L2,p2,h1,h2,rfl,rfl⟩:∃L1 p1 L2 p2,S k lo (some s) L1 p1/\cz S ks ss s hi L2 p2/\L=L1++L2/\ps=p1++p2:=by cases ks<;>exact h
   have:∃L1' p1' L2' p2',S' k lo (some s) L1' p1'/\cz S' ks ss s hi L2' p2'/\L1++L2=L1'++L2'/\p1++p2=p1'++p2':=
    ⟨L1,p1,L2,p2,hs _ _ _ _ _ (λx hx=>Yi) h1,ih h2 λk lo hi L q hq=>hs k lo hi L q λx hx=>TP,rfl,rfl⟩
   cases ks<;>exact this
def cz.cons {lo:cn}{hi:Option cn}{L:List bq}:cz S (k::ks) (s::ss) lo hi L ps↔∃L1 p1 L2 p2,S k lo (some s) L1 p1/\cz S ks ss s hi L2 p2/\L=L1++L2/\ps=p1++p2:=by cases ks<;>exact Iff.rfl
def cz.one {lo:cn}{hi:Option cn}{L:List bq}:cz S (k::ks) [] lo hi L ps↔ks=[]/\S k lo hi L ps:=by
 cases ks with
 |nil=>simp[cz]
 |cons k2 ks=>simp[cz]
def cz.len {lo:cn}{hi:Option cn}{L:List bq}(h:cz S ks ss lo hi L ps):ks.length=ss.length+1:=by
 induction ks generalizing ss lo L ps with
 |nil=>cases ss<;>exact h.elim
 |cons k ks ih=>
  cases ss with
  |nil=>rw[cz.one]at h;rw[h.1];rfl
  |cons s ss=>rw[cz.cons]at h;obtain⟨_,_,_,_,_,h2,_,_⟩:=h;simp[ih h2]
def Bj (S:tx):List Nat->List cn->cn->cn->List bq->List Nat->Prop
 |[],[],lo,kM,L,ps=>lo=kM/\L=[]/\ps=[]
 |k::ks,s::ss,lo,kM,L,ps=>∃L1 p1 L2 p2,S k lo (some s) L1 p1/\Bj S ks ss s kM L2 p2/\L=L1++L2/\ps=p1++p2
 |_,_,_,_,_,_=>False
def OE (S:tx):List Nat->List cn->Option cn->Option cn->List bq->List Nat->Prop
 |[],[],kM,hi,L,ps=>kM=hi/\L=[]/\ps=[]
 |k::ks,s::ss,kM,hi,L,ps=>kM=some s/\cz S (k::ks) ss s hi L ps
 |_,_,_,_,_,_=>False
def cz.split {lo:cn}{hi:Option cn}{L:List bq}(he:k1.length=s1.length):cz S (k1++k2) (s1++s2) lo hi L ps↔∃kM L1 p1 L2 p2,Bj S k1 s1 lo kM L1 p1/\cz S k2 s2 kM hi L2 p2/\L=L1++L2/\ps=p1++p2:=by
 induction k1 generalizing s1 lo L ps with
 |nil=>
  cases s1 with
  |nil=>
   constructor
   .intro h;exact⟨lo,[],[],L,ps,⟨rfl,rfl,rfl⟩,h,rfl,rfl⟩
   .rintro⟨kM,L1,p1,L2,p2,⟨rfl,rfl,rfl⟩,h,rfl,rfl⟩;exact h
  |cons s s1=>cases he
 |cons k k1 ih=>
  cases s1 with
  |nil=>cases he
  |cons s s1=>
   have Ru:k1.length=s1.length:=aaT
   rw[aFS,aFS,cz.cons];constructor
   .rintro⟨L1,p1,L2,p2,h1,h2,rfl,rfl⟩;obtain⟨kM,L3,p3,L4,p4,h3,h4,rfl,rfl⟩:=(ih Ru).1 h2;exact⟨kM,L1++L3,p1++p3,L4,p4,⟨L1,p1,L3,p3,h1,h3,rfl,rfl⟩,h4,uG,uG⟩
   .rintro⟨kM,_,_,L4,p4,⟨L1,p1,L3,p3,h1,h3,rfl,rfl⟩,h4,rfl,rfl⟩;exact⟨L1,p1,L3++L4,p3++p4,h1,(ih Ru).2 ⟨kM,L3,p3,L4,p4,h3,h4,rfl,rfl⟩,uG,uG⟩
def cz.focus {lo:cn}{hi:Option cn}{L:List bq}:cz S (k::k2) s2 lo hi L ps↔∃kM L1 p1 L2 p2,S k lo kM L1 p1/\OE S k2 s2 kM hi L2 p2/\L=L1++L2/\ps=p1++p2:=by
 cases s2 with
 |nil=>
  rw[cz.one];constructor
  .rintro⟨rfl,h⟩;exact⟨hi,L,ps,[],[],h,⟨rfl,rfl,rfl⟩,uG,uG⟩
  .rintro⟨kM,L1,p1,L2,p2,h1,h2,rfl,rfl⟩;cases k2 with
   |nil=>obtain⟨rfl,rfl,rfl⟩:=h2;exact⟨rfl,O8⟩
   |cons k3 k2=>exact h2.elim
 |cons s s2=>
  rw[cz.cons];constructor
  .rintro⟨L1,p1,L2,p2,h1,h2,rfl,rfl⟩;cases k2 with
   |nil=>exact absurd h2.len uG
   |cons k3 k2=>exact⟨some s,L1,p1,L2,p2,h1,⟨rfl,h2⟩,rfl,rfl⟩
  .rintro⟨kM,L1,p1,L2,p2,h1,h2,rfl,rfl⟩;cases k2 with
   |nil=>exact h2.elim
   |cons k3 k2=>obtain⟨rfl,h3⟩:=h2;exact⟨L1,p1,L2,p2,h1,h3,rfl,rfl⟩
def Bj.snoc {lo:cn}{L:List bq}:Bj S ks (ss++[s]) lo kM L ps↔kM=s/\cz S ks ss lo (some s) L ps:=by
 induction ks generalizing ss lo L ps with
 |nil=>
  constructor
  .intro h;cases ss<;>exact h.elim
  .rintro⟨_,h⟩;cases ss<;>exact h.elim
 |cons k ks ih=>
  cases ss with
  |nil=>
   rw[cz.one];constructor
   .rintro⟨L1,p1,L2,p2,h1,h2,rfl,rfl⟩;cases ks with
    |nil=>obtain⟨rfl,rfl,rfl⟩:=h2;exact⟨rfl,rfl,O8⟩
    |cons k2 ks=>exact h2.elim
   .rintro⟨rfl,rfl,h⟩;exact⟨L,ps,[],[],h,⟨rfl,rfl,rfl⟩,uG,uG⟩
  |cons s2 ss=>
   rw[aFS,cz.cons];constructor
   .rintro⟨L1,p1,L2,p2,h1,h2,rfl,rfl⟩;obtain⟨rfl,h3⟩:=ih.1 h2;exact⟨rfl,L1,p1,L2,p2,h1,h3,rfl,rfl⟩
   .rintro⟨rfl,L1,p1,L2,p2,h1,h2,rfl,rfl⟩;exact⟨L1,p1,L2,p2,h1,ih.2 ⟨rfl,h2⟩,rfl,rfl⟩
def Bj.mono {lo:cn}{L:List bq}(h:Bj S ks ss lo kM L ps)(hs:∀k lo hi L q,(∀x∈q,x∈ps)->S k lo hi L q->S' k lo hi L q):Bj S' ks ss lo kM L ps:=by
 induction ks generalizing ss lo L ps with
 |nil=>cases ss<;>exact h
 |cons k ks ih=>
  cases ss with
  |nil=>exact h
  |cons s ss=>
   obtain⟨L1,p1,L2,p2,h1,h2,rfl,rfl⟩:=h;exact⟨L1,p1,L2,p2,hs _ _ _ _ _ (λx hx=>Yi) h1,ih h2 λk lo hi L q hq=>hs k lo hi L q λx hx=>TP,rfl,rfl⟩
def OE.mono {kM hi:Option cn}{L:List bq}(h:OE S ks ss kM hi L ps)(hs:∀k lo hi L q,(∀x∈q,x∈ps)->S k lo hi L q->S' k lo hi L q):OE S' ks ss kM hi L ps:=by
 cases ks with
 |nil=>cases ss<;>exact h
 |cons k ks=>
  cases ss with
  |nil=>exact h
  |cons s ss=>exact⟨h.1,h.2.mono hs⟩
def Bj.len {lo:cn}{L:List bq}(h:Bj S ks ss lo kM L ps):ks.length=ss.length:=by
 induction ks generalizing ss lo L ps with
 |nil=>cases ss with|nil=>rfl|cons s ss=>exact h.elim
 |cons k ks ih=>
  cases ss with
  |nil=>exact h.elim
  |cons s ss=>obtain⟨L1,p1,L2,p2,h1,h2,rfl,rfl⟩:=h;simp[ih h2]
def Bj.append {lo:cn}{L:List bq}(he:k1.length=s1.length):Bj S (k1++k2) (s1++s2) lo kM L ps↔∃m L1 p1 L2 p2,Bj S k1 s1 lo m L1 p1/\Bj S k2 s2 m kM L2 p2/\L=L1++L2/\ps=p1++p2:=by
 induction k1 generalizing s1 lo L ps with
 |nil=>
  cases s1 with
  |nil=>
   constructor
   .intro h;exact⟨lo,[],[],L,ps,⟨rfl,rfl,rfl⟩,h,rfl,rfl⟩
   .rintro⟨m,L1,p1,L2,p2,⟨rfl,rfl,rfl⟩,h,rfl,rfl⟩;exact h
  |cons s s1=>cases he
 |cons k k1 ih=>
  cases s1 with
  |nil=>cases he
  |cons s s1=>
   have Ru:k1.length=s1.length:=aaT
   constructor
   .rintro⟨L1,p1,L2,p2,h1,h2,rfl,rfl⟩;obtain⟨m,L3,p3,L4,p4,h3,h4,rfl,rfl⟩:=(ih Ru).1 h2;exact⟨m,L1++L3,p1++p3,L4,p4,⟨L1,p1,L3,p3,h1,h3,rfl,rfl⟩,h4,uG,uG⟩
   .rintro⟨m,_,_,L4,p4,⟨L1,p1,L3,p3,h1,h3,rfl,rfl⟩,h4,rfl,rfl⟩;exact⟨L1,p1,L3++L4,p3++p4,h1,(ih Ru).2 ⟨m,L3,p3,L4,p4,h3,h4,rfl,rfl⟩,uG,uG⟩
end
def Kept (G G':GM)(ps:List Nat):Prop:=∀q∈ps,(G.bW q->G'.bW q)/\G'.cont q=G.cont q
def Kept.sub {G G':GM}{qs:List Nat}(h:Kept G G' ps)(hs:∀x∈qs,x∈ps):Kept G G' qs:=λq hq=>h q (hs q hq)
def pC.kept {G G':GM}{page:Nat}{v:List UInt8}(h:pC G ps page v)(k:Kept G G' ps):pC G' ps page v:=by
 induction ps generalizing page v with
 |nil=>exact h
 |cons p ps ih=>
  obtain⟨rfl,h1,h2,next,h3,h4,h5⟩:=h;obtain⟨k1,k2⟩:=k page uG;exact⟨rfl,h1,k1 h2,next,by rw[k2];exact h3,h4,ih h5 (k.sub (by simp_all))⟩
def ff.kept {G G':GM}{cs:List dh}{L:List bq}(h:ff G cs L ps)(k:Kept G G' ps):ff G' cs L ps:=by
 induction cs generalizing L ps with
 |nil=>exact h
 |cons c cs ih=>
  obtain⟨v,p1,L2,p2,h1,h2,rfl,rfl⟩:=h;refine⟨v,p1,L2,p2,?_,ih h2 (k.sub (by simp_all)),rfl,rfl⟩;rcases h1 with h1|⟨a,b,c,d,e⟩
  .exact .inl h1
  .exact .inr ⟨a,b,c,d,e.kept (k.sub (by simp_all))⟩
def nh.kept {G G':GM}{page:Nat}{n:bp}(h:nh G page n)(k:Kept G G' [page]):nh G' page n:=by
 obtain⟨k1,k2⟩:=k page uG;exact⟨k1 h.bW,by rw[k2];exact h.cont,h.ok,h.size,h.full⟩
def vP.kept {G G':GM}:∀{h:Nat} {n:bp} {lo:cn} {hi:Option cn} {L:List bq} {ps:List Nat},vP G h n lo hi L ps->Kept G G' ps->vP G' h n lo hi L ps:=by
 intro h
 induction h with
 |zero=>rintro n lo hi L ps ⟨h1,h2,h3,h4⟩ k;exact⟨h1,h2,h3.kept k,h4⟩
 |succ h ih=>
  rintro n lo hi L ps ⟨h1,h2⟩ k;refine⟨h1,h2.mono λkk lo hi L q hq hS=>?_⟩;obtain⟨m,q',a,b,rfl⟩:=hS;exact⟨m,q',a.kept (k.sub λx hx=>hq x ady),ih b (k.sub λx hx=>hq x Yi),rfl⟩
def Sub.kept {G G':GM}{h page:Nat}{lo:cn}{hi:Option cn}{L:List bq}(hs:Sub G h page lo hi L ps)(k:Kept G G' ps):Sub G' h page lo hi L ps:=by
 obtain⟨m,q',a,b,rfl⟩:=hs;exact⟨m,q',a.kept (k.sub λx hx=>ady),b.kept (k.sub λx hx=>Yi),rfl⟩
end
section
variable {S:tx}{ks:List Nat}{ss:List cn}{L:List bq}{ps:List Nat}{G:GM}{cs:List dh}{h:Nat}
def nq (L:List bq):Prop:=L.Pairwise λa b=>eQ a.1 b.1
structure Ce (lo:cn)(hi:Option cn)(L:List bq):Prop where
 lt:En lo hi
 Zl:∀x∈L,lp lo x.1/\En x.1 hi
 sorted:nq L
def zH {L1 L2:List bq}(h1:nq L1)(h2:nq L2)(h:∀x∈L1,∀y∈L2,eQ x.1 y.1):nq (L1++L2):=aGP.2 ⟨h1,h2,h⟩
def cz.facts (hS:∀k lo hi L q,S k lo hi L q->Ce lo hi L){lo:cn}{hi:Option cn}(h:cz S ks ss lo hi L ps):
 Ce lo hi L/\(∀s∈ss,eQ lo s/\En s hi)/\ss.Pairwise eQ:=by
 induction ks generalizing ss lo L ps with
 |nil=>cases ss<;>exact h.elim
 |cons k ks ih=>
  cases ss with
  |nil=>rw[cz.one]at h;exact⟨hS _ _ _ _ _ h.2,uG,uG⟩
  |cons s ss=>
   rw[cz.cons]at h;obtain⟨L1,p1,L2,p2,h1,h2,rfl,rfl⟩:=h;have f1:=hS _ _ _ _ _ h1;obtain⟨f2,f3,f4⟩:=ih h2;have hlt:eQ lo s:=f1.lt;have hsh:=f2.lt;refine⟨⟨qc hlt hsh,λx hx=>?_,zH f1.sorted f2.sorted λx hx y hy=>?_⟩,λt ht=>?_,?_⟩
   .rcases aEY.1 hx with hx|hx
    .obtain⟨a,b⟩:=f1.Zl x hx;exact⟨a,qc b hsh⟩
    .obtain⟨a,b⟩:=f2.Zl x hx;exact⟨(hlt.ko a).le,b⟩
   .have a:eQ x.1 s:=(f1.Zl x hx).2;exact a.ko (f2.Zl y hy).1
   .rcases aEP.1 ht with rfl|ht
    .exact⟨hlt,hsh⟩
    .obtain⟨a,b⟩:=f3 t ht;exact⟨jl hlt a,b⟩
   .exact aHs.2 ⟨λt ht=>(f3 t ht).1,f4⟩
def Bj.facts (hS:∀k lo hi L q,S k lo hi L q->Ce lo hi L){lo kM:cn}(h:Bj S ks ss lo kM L ps):
 lp lo kM/\(∀x∈L,eQ x.1 kM):=by
 induction ks generalizing ss lo L ps with
 |nil=>cases ss with
  |nil=>obtain⟨rfl,rfl,rfl⟩:=h;exact⟨As _,uG⟩
  |cons s ss=>exact h.elim
 |cons k ks ih=>
  cases ss with
  |nil=>exact h.elim
  |cons s ss=>
   obtain⟨L1,p1,L2,p2,h1,h2,rfl,rfl⟩:=h;have f1:=hS _ _ _ _ _ h1;have hlt:eQ lo s:=f1.lt;obtain⟨f2,f3⟩:=ih h2;refine⟨(hlt.ko f2).le,λx hx=>?_⟩;rcases aEY.1 hx with hx|hx
   .have a:eQ x.1 s:=(f1.Zl x hx).2;exact a.ko f2
   .exact f3 x hx
def leh (kM:Option cn)(k:cn):Prop:=match kM with|none=>False|some m=>lp m k
def OE.facts (hS:∀k lo hi L q,S k lo hi L q->Ce lo hi L){kM hi:Option cn}(h:OE S ks ss kM hi L ps):
 (∀x∈L,leh kM x.1)/\∀k,En k kM->En k hi:=by
 cases ks with
 |nil=>cases ss with
  |nil=>obtain⟨rfl,rfl,rfl⟩:=h;exact⟨uG,λk h=>h⟩
  |cons s ss=>exact h.elim
 |cons k ks=>
  cases ss with
  |nil=>exact h.elim
  |cons s ss=>
   obtain⟨rfl,h⟩:=h;obtain⟨f,_⟩:=h.facts hS;exact⟨λx hx=>(f.Zl x hx).1,λk hk=>qc hk f.lt⟩
def ff.keys (h:ff G cs L ps):L.map (·.1)=cs.map (·.key):=by
 induction cs generalizing L ps with
 |nil=>obtain⟨rfl,rfl⟩:=h;rfl
 |cons c cs ih=>obtain⟨v,p1,L2,p2,h1,h2,rfl,rfl⟩:=h;simp[ih h2]
def ff.len (h:ff G cs L ps):L.length=cs.length:=by simpa using congrArg List.length h.keys
def GI.facts {n:bp}{lo:cn}{hi:Option cn}(h:GI G n lo hi L ps)(hn:iS n.cells):Ce lo hi L:=by
 obtain⟨h1,h2,h3,h4⟩:=h;have hk:=h3.keys;refine⟨h2,λx hx=>?_,?_⟩
 .have:x.1∈n.cells.map (·.key):=by rw[<-hk];exact aFX hx
  obtain⟨c,hc,e⟩:=aFq.1 this;rw[<-e];exact h4 c hc
 .have:(L.map (·.1)).Pairwise eQ:=by rw[hk,aGR];exact hn
  rw[aGR]at this;exact this
def vP.facts :∀{h:Nat} {n:bp} {lo:cn} {hi:Option cn} {L:List bq} {ps:List Nat},vP G h n lo hi L ps->iS n.cells->Ce lo hi L:=by
 intro h
 induction h with
 |zero=>intro n lo hi L ps h1 hn;exact GI.facts h1 hn
 |succ h ih=>
  rintro n lo hi L ps ⟨_,h2⟩ hn;exact(h2.facts λk lo hi L q hS=>by obtain⟨m,q',a,b,rfl⟩:=hS;exact ih b a.ok.sorted).1
def Sub.facts {page:Nat}{lo:cn}{hi:Option cn}(hs:Sub G h page lo hi L ps):Ce lo hi L:=by
 obtain⟨m,q',a,b,rfl⟩:=hs;exact b.facts a.ok.sorted
def Sub.te :∀k lo hi L q,Sub G h k lo hi L q->Ce lo hi L:=λ_ _ _ _ _ hS=>hS.facts
def cz.aH {lo:cn}{hi:Option cn}(h:cz S ks ss lo hi L ps)(P:Nat->Prop)(hS:∀k lo hi L q,S k lo hi L q->∀x∈q,P x):∀x∈ps,P x:=by
 induction ks generalizing ss lo L ps with
 |nil=>cases ss<;>exact h.elim
 |cons k ks ih=>
  cases ss with
  |nil=>rw[cz.one]at h;exact hS _ _ _ _ _ h.2
  |cons s ss=>
   rw[cz.cons]at h;obtain⟨L1,p1,L2,p2,h1,h2,rfl,rfl⟩:=h;intro x hx;rcases aEY.1 hx with hx|hx
   .exact hS _ _ _ _ _ h1 x hx
   .exact ih h2 x hx
def pC.aH {page:Nat}{v:List UInt8}(h:pC G ps page v):∀x∈ps,G.bW x:=by
 induction ps generalizing page v with
 |nil=>simp
 |cons p ps ih=>
  obtain⟨rfl,h1,h2,next,h3,h4,h5⟩:=h;intro x hx;rcases aEP.1 hx with rfl|hx
  .exact h2
  .exact ih h5 x hx
def ff.aH (h:ff G cs L ps):∀x∈ps,G.bW x:=by
 induction cs generalizing L ps with
 |nil=>obtain⟨rfl,rfl⟩:=h;simp
 |cons c cs ih=>
  obtain⟨v,p1,L2,p2,h1,h2,rfl,rfl⟩:=h;intro x hx;rcases aEY.1 hx with hx|hx
  .rcases h1 with⟨_,_,rfl⟩|⟨_,_,_,_,e⟩
   .cases hx
   .exact e.aH x hx
  .exact ih h2 x hx
def vP.aH :∀{h:Nat} {n:bp} {lo:cn} {hi:Option cn} {L:List bq} {ps:List Nat},vP G h n lo hi L ps->∀x∈ps,G.bW x:=by
 intro h
 induction h with
 |zero=>rintro n lo hi L ps ⟨_,_,h3,_⟩;exact h3.aH
 |succ h ih=>
  rintro n lo hi L ps ⟨_,h2⟩;refine h2.aH _ λk lo hi L q hS=>?_;obtain⟨m,q',a,b,rfl⟩:=hS;intro x hx;rcases aEP.1 hx with rfl|hx
  .exact a.bW
  .exact ih b x hx
def Sub.aH {page:Nat}{lo:cn}{hi:Option cn}(hs:Sub G h page lo hi L ps):∀x∈ps,G.bW x:=by
 obtain⟨m,q',a,b,rfl⟩:=hs;intro x hx;rcases aEP.1 hx with rfl|hx
 .exact a.bW
 .exact b.aH x hx
def cz.count {w:Nat}(hS:∀k lo hi L q,S k lo hi L q->w<=q.length){lo:cn}{hi:Option cn}(h:cz S ks ss lo hi L ps):ks.length*w<=ps.length:=by
 induction ks generalizing ss lo L ps with
 |nil=>cases ss<;>exact h.elim
 |cons k ks ih=>
  cases ss with
  |nil=>rw[cz.one]at h;obtain⟨rfl,h⟩:=h;simpa using hS _ _ _ _ _ h
  |cons s ss=>
   rw[cz.cons]at h;obtain⟨L1,p1,L2,p2,h1,h2,rfl,rfl⟩:=h;have:=hS _ _ _ _ _ h1;have:=ih h2;rw[aFp,aEU,aFW];omega
def Sub.count :∀{h page:Nat} {lo:cn} {hi:Option cn} {L:List bq} {ps:List Nat},Sub G h page lo hi L ps->2^h<=ps.length:=by
 intro h
 induction h with
 |zero=>rintro page lo hi L ps ⟨m,q',a,b,rfl⟩;simp
 |succ h ih=>
  rintro page lo hi L ps ⟨m,q',a,⟨b1,b2⟩,rfl⟩;have h1:=b2.count (w:=2^h) λk lo hi L q hS=>ih hS;have h2:=b2.len
  have h3:0<m.ft.length:=by
   rcases a.full with h|h
   .rw[b1]at h;cases h
   .unfold bp.ft;rw[aFK];exact aGX.2 h
  have h4:2*2^h<=m.kids.length*2^h:=aFH _ qE;rw[aHw,aFp];omega
def lC:∀(n:Nat) (l:List Nat),l.Nodup->(∀x∈l,x<n)->l.length<=n:=by
 intro n
 induction n with
 |zero=>intro l _ h;cases l with|nil=>simp|cons a l=>exact absurd (h a uG) qE
 |succ n ih=>
  intro l hn h
  by_cases hm:n∈l
  .have h1:=ih (l.erase n) (hn.erase n) λx hx=>by
    obtain⟨a,b⟩:=hn.mem_erase_iff.1 hx;have:=h x b;omega
   rw[List.length_erase_of_mem hm]at h1;omega
  .have:=ih l hn λx hx=>by
    have:=h x hx;have:x≠n:=λe=>hm (e▸hx);omega
   omega
def Gm (hn:ps.Nodup)(hu:∀x∈ps,G.bW x)(h1:1<=G.used):ps.length+1<=G.used:=by
 have:=lC G.used (0::ps) (aFd.2 ⟨λh=>by have:=(hu 0 h).1;omega,hn⟩) λx hx=>by
  rcases aEP.1 hx with rfl|hx
  .omega
  .exact(hu x hx).2.1
 simpa using this
def Sub.deep {page:Nat}{lo:cn}{hi:Option cn}(hs:Sub G h page lo hi L ps)(hn:ps.Nodup)(hG:uY G):h<=16:=by
 have h1:=hs.count;have h2:=Gm hn hs.aH hG.one;have h3:=hG.jL;have h4:=hG.size;rcases aGh 16 h with h5|h5
 .have:2^17<=2^h:=Nat.pow_le_pow_right qE h5;omega
 .exact h5
structure cK where
 page:Nat
 at_:Nat
 n:bp
def Ctx (G:GM):Nat->List cK->Nat->cn->Option cn->List bq->List bq->List Nat->Prop
 |_,[],page,lo,hi,Ll,Lr,ps=>page=G.root/\lo=[]/\hi=none/\Ll=[]/\Lr=[]/\ps=[]
 |h,s::l,page,lo,hi,Ll,Lr,ps=>∃la fk yZ yY pF La pa Lb pb,Ctx G (h+1) l s.page la fk yZ yY pF/\nh G s.page s.n/\s.n.leaf=false/\s.n.kids[s.at_]?=some page/\
  Bj (Sub G h) (s.n.kids.take s.at_) (s.n.ft.take s.at_) la lo La pa/\OE (Sub G h) (s.n.kids.drop (s.at_+1)) (s.n.ft.drop s.at_) hi fk Lb pb/\Ll=yZ++La/\Lr=Lb++yY/\ps=s.page::(pa++(pb++pF))
def Au (kids:List Nat)(i:Nat)(page:Nat)(h:kids[i]?=some page):kids=kids.take i++page::kids.drop (i+1):=by
 obtain⟨hi,rfl⟩:=aFb.1 h
 conv=>lhs;rw[<-aFD i kids,aFk hi]
def Ctx.fill :∀{l:List cK} {h page:Nat} {lo:cn} {hi:Option cn} {Ll Lr:List bq} {ps:List Nat},Ctx G h l page lo hi Ll Lr ps->∀{L:List bq} {q:List Nat},Sub G h page lo hi L q->
 ∃pF,pF.Perm (q++ps)/\Sub G (h+l.length) G.root [] none (Ll++(L++Lr)) pF:=by
 intro l
 induction l with
 |nil=>
  rintro h page lo hi Ll Lr ps ⟨rfl,rfl,rfl,rfl,rfl,rfl⟩ L q hs;exact⟨q,uG,aaX⟩
 |cons s l ih=>
  rintro h page lo hi Ll Lr ps ⟨la,fk,yZ,yY,pF,La,pa,Lb,pb,h1,h2,h3,h4,h5,h6,rfl,rfl,rfl⟩ L q hs
  have hk:cz (Sub G h) s.n.kids s.n.ft la fk (La++(L++Lb)) (pa++(q++pb)):=by
   rw[Au _ _ _ h4]
   conv=>arg 3;rw[<-aFD s.at_ s.n.ft]
   exact(cz.split h5.len).2 ⟨lo,La,pa,L++Lb,q++pb,h5,cz.focus.2 ⟨hi,L,q,Lb,pb,hs,h6,rfl,rfl⟩,rfl,rfl⟩
  obtain⟨ps2,e1,e2⟩:=ih h1 (L:=La++(L++Lb)) (q:=s.page::(pa++(q++pb))) ⟨s.n,_,h2,⟨h3,hk⟩,rfl⟩;refine⟨ps2,e1.trans ?_,?_⟩
  .refine(aGC.2 λx=>?_);simp only[aGK,aGY];omega
  .have e:h+(s::l).length=h+1+l.length:=by simp;omega
   rw[e]
   simpa using e2
def Ctx.kept {G':GM}(hr:G'.root=G.root):∀{l:List cK} {h page:Nat} {lo:cn} {hi:Option cn} {Ll Lr:List bq} {ps:List Nat},Ctx G h l page lo hi Ll Lr ps->Kept G G' ps->Ctx G' h l page lo hi Ll Lr ps:=by
 intro l
 induction l with
 |nil=>rintro h page lo hi Ll Lr ps ⟨h1,h2⟩ _;exact⟨by rw[hr];exact h1,h2⟩
 |cons s l ih=>
  rintro h page lo hi Ll Lr ps ⟨la,fk,yZ,yY,pF,La,pa,Lb,pb,h1,h2,h3,h4,h5,h6,rfl,rfl,rfl⟩ k
  exact⟨la,fk,yZ,yY,pF,La,pa,Lb,pb,ih h1 (k.sub (by simp_all)),h2.kept (k.sub (by simp_all)),h3,h4,h5.mono λ_ _ _ _ q hq hS=>hS.kept (k.sub λx hx=>TP),
   h6.mono λ_ _ _ _ q hq hS=>hS.kept (k.sub λx hx=>TP),rfl,rfl,rfl⟩
def Ctx.aH :∀{l:List cK} {h page:Nat} {lo:cn} {hi:Option cn} {Ll Lr:List bq} {ps:List Nat},Ctx G h l page lo hi Ll Lr ps->∀x∈ps,G.bW x:=by
 intro l
 induction l with
 |nil=>rintro h page lo hi Ll Lr ps ⟨_,_,_,_,_,rfl⟩;simp
 |cons s l ih=>
  rintro h page lo hi Ll Lr ps ⟨la,fk,yZ,yY,pF,La,pa,Lb,pb,h1,h2,h3,h4,h5,h6,rfl,rfl,rfl⟩ x hx
  have hL:∀{ks:List Nat} {ss:List cn} {lo kM:cn} {L:List bq} {p:List Nat},Bj (Sub G h) ks ss lo kM L p->∀x∈p,G.bW x:=by
   intro ks
   induction ks with
   |nil=>intro ss lo kM L p hh;cases ss with
    |nil=>obtain⟨_,_,rfl⟩:=hh;simp
    |cons s ss=>exact hh.elim
   |cons k ks ih2=>
    intro ss lo kM L p hh;cases ss with
    |nil=>exact hh.elim
    |cons s ss=>
     obtain⟨L1,p1,L2,p2,a,b,rfl,rfl⟩:=hh;intro x hx;rcases aEY.1 hx with hx|hx
     .exact a.aH x hx
     .exact ih2 b x hx
  have hR:∀{ks:List Nat} {ss:List cn} {kM hi:Option cn} {L:List bq} {p:List Nat},OE (Sub G h) ks ss kM hi L p->∀x∈p,G.bW x:=by
   intro ks ss kM hi L p hh;cases ks with
   |nil=>cases ss with
    |nil=>obtain⟨_,_,rfl⟩:=hh;simp
    |cons s ss=>exact hh.elim
   |cons k ks=>cases ss with
    |nil=>exact hh.elim
    |cons s ss=>exact hh.2.aH _ λ_ _ _ _ _ hS=>hS.aH
  simp only[aEP,aEY]at hx;rcases hx with rfl|hx|hx|hx
  .exact h2.bW
  .exact hL h5 x hx
  .exact hR h6 x hx
  .exact ih h1 x hx
def Ctx.adI :∀{l:List cK} {h page:Nat} {lo:cn} {hi:Option cn} {Ll Lr:List bq} {ps:List Nat},Ctx G h l page lo hi Ll Lr ps->(∀x∈Ll,eQ x.1 lo)/\(∀x∈Lr,leh hi x.1):=by
 intro l
 induction l with
 |nil=>rintro h page lo hi Ll Lr ps ⟨_,_,_,rfl,rfl,_⟩;simp
 |cons s l ih=>
  rintro h page lo hi Ll Lr ps ⟨la,fk,yZ,yY,pF,La,pa,Lb,pb,h1,h2,h3,h4,h5,h6,rfl,rfl,rfl⟩;obtain⟨i1,i2⟩:=ih h1;obtain⟨a1,a2⟩:=h5.facts Sub.te;obtain⟨b1,b2⟩:=h6.facts Sub.te;refine⟨λx hx=>?_,λx hx=>?_⟩
  .rcases aEY.1 hx with hx|hx
   .exact(i1 x hx).ko a1
   .exact a2 x hx
  .rcases aEY.1 hx with hx|hx
   .exact b1 x hx
   .have h:=i2 x hx;cases fk with
    |none=>exact h.elim
    |some m'=>
     cases hi with
     |none=>exact absurd (b2 (m'++[0]) trivial) (λh=>by
      have:¬eQ (m'++[0]) m':=by
       have:∀m:cn,¬eQ (m++[0]) m:=λm=>by
        induction m with
        |nil=>exact jK _
        |cons a m ih=>rw[aFS,sM];rintro(h|⟨_,h⟩);exact UInt8.lt_irrefl a h;exact ih h
       exact this m'
      exact this h)
     |some m=>
      have hm:lp m m':=by
       rcases CI m m' with h|h
       .exact h
       .have:=b2 m' h;exact absurd this (jM _)
      exact hm.trans h
end
section
variable {G:GM}{L:List bq}{ps:List Nat}{i h:Nat}{n a:bp}{s:cn}{q:List Nat}{S:tx}{k2:List Nat}{s2:List cn}{L1 L2:List bq}{q1 q2:List Nat}
def ff.append {c1 c2:List dh}:ff G (c1++c2) L ps↔∃L1 p1 L2 p2,ff G c1 L1 p1/\ff G c2 L2 p2/\L=L1++L2/\ps=p1++p2:=by
 induction c1 generalizing L ps with
 |nil=>
  constructor
  .intro h;exact⟨[],[],L,ps,⟨rfl,rfl⟩,h,rfl,rfl⟩
  .rintro⟨L1,p1,L2,p2,⟨rfl,rfl⟩,h,rfl,rfl⟩;exact h
 |cons c c1 ih=>
  constructor
  .rintro⟨v,p1,L2,p2,h1,h2,rfl,rfl⟩;obtain⟨L3,p3,L4,p4,h3,h4,rfl,rfl⟩:=ih.1 h2;exact⟨(c.key,v)::L3,p1++p3,L4,p4,⟨v,p1,L3,p3,h1,h3,rfl,rfl⟩,h4,uG,uG⟩
  .rintro⟨_,_,L4,p4,⟨v,p1,L3,p3,h1,h3,rfl,rfl⟩,h4,rfl,rfl⟩;exact⟨v,p1,L3++L4,p3++p4,h1,ih.2 ⟨L3,p3,L4,p4,h3,h4,rfl,rfl⟩,uG,uG⟩
def vg {l:List dh}(h:iS l)(hi:i<l.length):(∀c∈l.take i,eQ c.key l[i].key)/\(∀c∈l.drop i,lp l[i].key c.key)/\∀c∈l.drop (i+1),eQ l[i].key c.key:=by
 have e:l=l.take i++l[i]::l.drop (i+1):=by
  conv=>lhs;rw[<-aFD i l,aFk hi]
 have h2:(l.take i++l[i]::l.drop (i+1)).Pairwise λa b=>eQ a.key b.key:=by rw[<-e];exact h
 rw[aGP]at h2;obtain⟨_,h3,h4⟩:=h2;rw[aHs]at h3;refine⟨λc hc=>h4 c hc _ aFT,λc hc=>?_,h3.1⟩;rw[aFk hi]at hc;rcases aEP.1 hc with rfl|hc
 .exact As _
 .exact(h3.1 c hc).le
def kq (n:bp):n.ft.length=n.cells.length:=by unfold bp.ft;simp
def PF (n:bp)(h:i<n.cells.length):n.ft[i]'(by rw[kq];exact h)=n.cells[i].key:=by unfold bp.ft;simp
def vP.cut {b:bp}{lo:cn}{hi:Option cn}(hc:vP G h n lo hi L q)(hn:n.ok)(H:Bk n a b i s):
 ∃L1 q1 L2 q2,vP G h a lo (some s) L1 q1/\vP G h b s hi L2 q2/\L=L1++L2/\q=q1++q2:=by
 have hlt:=H.lt;obtain⟨g1,g2,g3⟩:=vg hn.sorted hlt;rw[<-H.key]at g1 g2 g3;cases h with
 |zero=>
  obtain⟨c1,c2,c3,c4⟩:=hc;rcases H.eqs with⟨hl,ha,hb⟩|⟨hl,_⟩
  .rw[<-aFD i n.cells]at c3;obtain⟨L1,q1,L2,q2,d1,d2,rfl,rfl⟩:=ff.append.1 c3;have hs:=c4 _ (aFj hlt);rw[<-H.key]at hs;have ij:(n.cells.take i)≠[]:=by have:=H.neA;rw[ha]at this;exact this
   obtain⟨c0,J9⟩:=List.exists_mem_of_ne_nil _ ij;have uR:=(c4 c0 (aFz J9)).1.zE (g1 c0 J9);refine⟨L1,q1,L2,q2,?_,?_,rfl,rfl⟩
   .rw[ha];exact⟨rfl,uR,d1,λc hc=>⟨(c4 c (aFz hc)).1,g1 c hc⟩⟩
   .rw[hb];exact⟨rfl,hs.2,d2,λc hc=>⟨g2 c hc,(c4 c (aFF hc)).2⟩⟩
  .rw[c1]at hl;cases hl
 |succ h=>
  obtain⟨c1,c2⟩:=hc;rcases H.eqs with⟨hl,_⟩|⟨hl,ha,hb⟩
  .rw[c1]at hl;cases hl
  .have hk:=c2.len;rw[kq]at hk
   have e1:n.ft=(n.ft.take i++[s])++n.ft.drop (i+1):=by
    conv=>lhs;rw[<-aFD (i+1) n.ft,aFe (by rw[kq];exact hlt),PF n hlt,<-H.key]
   rw[e1]at c2
   conv at c2=>arg 2;rw[<-aFD (i+1) n.kids]
   have hlen:(n.kids.take (i+1)).length=(n.ft.take i++[s]).length:=by simp[kq];omega
   obtain⟨kM,L1,q1,L2,q2,d1,d2,rfl,rfl⟩:=(cz.split hlen).1 c2;obtain⟨rfl,d3⟩:=Bj.snoc.1 d1;refine⟨L1,q1,L2,q2,?_,?_,rfl,rfl⟩
   .rw[ha];refine⟨rfl,?_⟩;have e:bp.ft ⟨false,n.cells.take i,n.kids.take (i+1)⟩=n.ft.take i:=by unfold bp.ft;simp[aGx]
    rw[e];exact d3
   .rw[hb];refine⟨rfl,?_⟩;have e:bp.ft ⟨false,n.cells.drop (i+1),n.kids.drop (i+1)⟩=n.ft.drop (i+1):=by unfold bp.ft;simp[aGl]
    rw[e];exact d2
def vP.leaf {lo:cn}{hi:Option cn}(hc:vP G h n lo hi L q):n.leaf=decide (h=0):=by
 cases h with
 |zero=>exact hc.1
 |succ h=>exact hc.1
def cz.join {k1:List Nat}{s1:List cn}{lo:cn}{hi:Option cn}(h1:cz S k1 s1 lo (some s) L1 q1)(h2:cz S k2 s2 s hi L2 q2):cz S (k1++k2) (s1++s::s2) lo hi (L1++L2) (q1++q2):=by
 have e:s1++s::s2=(s1++[s])++s2:=uG
 rw[e];have:=Bj.snoc.2 ⟨rfl,h1⟩;exact(cz.split this.len).2 ⟨s,L1,q1,L2,q2,this,h2,rfl,rfl⟩
def vP.join {b:bp}{lo:cn}{hi:Option cn}(ha:vP G h a lo (some s) L1 q1)(hb:vP G h b s hi L2 q2)(oa:a.ok)(ob:b.ok)(hs:s.length<=48):
 vP G h (dG a s b) lo hi (L1++L2) (q1++q2)/\(dG a s b).ok/\(dG a s b).size<=a.size+b.size+52:=by
 have hla:=ha.leaf;have Ox:=hb.leaf;have fa:=ha.facts oa.sorted;have fb:=hb.facts ob.sorted
 have hus:(uv (a.cells.length+b.cells.length)).length<=(uv a.cells.length).length+(uv b.cells.length).length+1:=by
  have key:∀m n,m<=n->(uv (n+m)).length<=(uv n).length+1:=by
   intro m n hmn;have h1:(uv (n+m)).length<=(uv (2*n)).length:=vT qE
   have h2:∀n,(uv (2*n)).length<=(uv n).length+1:=by
    intro n
    induction n using Nat.strongRecOn with
    |_ n ih=>
     by_cases hn:127<n
     .rw[iR hn,iR (n:=2*n) qE,aFp,aFp];have h3:=ih (n/128) qE;have h4:(uv (2*n/128)).length<=(uv (2*(n/128)+1)).length:=vT qE
      by_cases h5:n/128<=63
      .have:(uv (2*(n/128)+1)).length=1:=eM qE;omega
      .have h6:(uv (2*(n/128)+1)).length<=(uv (2*(n/128))).length:=by
        have h7:127<2*(n/128):=qE
        rw[iR h7,iR (n:=2*(n/128)+1) qE,aFp,aFp];have:(2*(n/128)+1)/128=2*(n/128)/128:=qE
        rw[this];exact aEQ _
       omega
     .have:(uv (2*n)).length<=2:=qF qE;rw[eM (n:=n) qE];omega
   have:=h2 n;omega
  rcases Nat.le_total a.cells.length b.cells.length with h|h
  .have:=key _ _ h;rw[aHE];omega
  .have:=key _ _ h;omega
 cases h with
 |zero=>
  obtain⟨a1,a2,a3,a4⟩:=ha;obtain⟨b1,b2,b3,b4⟩:=hb;have ej:dG a s b=⟨true,a.cells++b.cells,[]⟩:=by unfold dG;rw[aEW a1]
  rw[ej];refine⟨⟨rfl,qc a2 b2,ff.append.2 ⟨L1,q1,L2,q2,a3,b3,rfl,rfl⟩,λc hc=>?_⟩,⟨λc hc=>?_,?_,rfl,uG⟩,?_⟩
  .rcases aEY.1 hc with hc|hc
   .obtain⟨x,y⟩:=a4 c hc;exact⟨x,qc y b2⟩
   .obtain⟨x,y⟩:=b4 c hc;have Wb:eQ lo s:=a2;exact⟨(Wb.ko x).le,y⟩
  .rcases aEY.1 hc with hc|hc
   .have:=oa.cell c hc;rw[a1]at this;exact this
   .have:=ob.cell c hc;rw[b1]at this;exact this
  .refine aGP.2 ⟨oa.sorted,ob.sorted,λx hx y hy=>?_⟩;have h1:eQ x.key s:=(a4 x hx).2;exact h1.ko (b4 y hy).1
  .rw[ck,ck,ck,a1,b1];simp only[aFm,eE,aEU];omega
 |succ h=>
  obtain⟨a1,a2⟩:=ha;obtain⟨b1,b2⟩:=hb;have ej:dG a s b=⟨false,a.cells++(fW s::b.cells),a.kids++b.kids⟩:=by unfold dG;rw[aET (by rw[a1];decide)]
  rw[ej];obtain⟨_,sa,_⟩:=a2.facts Sub.te;obtain⟨_,sb,_⟩:=b2.facts Sub.te;have okS:(fW s).ok false:=⟨hs,λ_=>⟨rfl,rfl,rfl⟩,λh=>(by cases h),λh=>(by cases h)⟩;have pP:=oa.jw;have nK:=ob.jw;rw[a1,aET u7]at pP;rw[b1,aET u7]at nK;refine⟨⟨rfl,?_⟩,⟨λc hc=>?_,?_,?_,λk hk=>?_⟩,?_⟩
  .have e:bp.ft ⟨false,a.cells++(fW s::b.cells),a.kids++b.kids⟩=a.ft++s::b.ft:=by unfold bp.ft;simp[fW]
   rw[e];exact a2.join b2
  .rcases aEY.1 hc with hc|hc
   .have:=oa.cell c hc;rw[a1]at this;exact this
   .rcases aEP.1 hc with rfl|hc
    .exact okS
    .have:=ob.cell c hc;rw[b1]at this;exact this
  .have Bq:∀x∈a.cells,eQ x.key s:=λx hx=>(sa x.key (aFX hx)).2;have hsb:∀x∈b.cells,eQ s x.key:=λx hx=>(sb x.key (aFX hx)).1;refine aGP.2 ⟨oa.sorted,aHs.2 ⟨λy hy=>hsb y hy,ob.sorted⟩,λx hx y hy=>?_⟩;rcases aEP.1 hy with rfl|hy
   .exact Bq x hx
   .exact jl (Bq x hx) (hsb y hy)
  .simp;omega
  .rcases aEY.1 hk with hk|hk
   .exact oa.CK k hk
   .exact ob.CK k hk
  .rw[ck,ck,ck,a1,b1];have h49:=(iD okS).2.2 rfl;have e:(a.cells++fW s::b.cells).length=a.cells.length+b.cells.length+1:=by simp;omega
   have h1:(uv (a.cells.length+b.cells.length+1)).length<=(uv (a.cells.length+b.cells.length)).length+1:=by
    generalize a.cells.length+b.cells.length=m
    induction m using Nat.strongRecOn with
    |_ n ih=>
     by_cases hn:127<n
     .rw[iR hn,iR (n:=n+1) qE,aFp,aFp];have h3:=ih (n/128) qE;have h4:(uv ((n+1)/128)).length<=(uv (n/128+1)).length:=vT qE;omega
     .have:(uv (n+1)).length<=2:=qF qE;rw[eM (n:=n) qE];omega
   simp only[aEM,aFa,eE,fC,iV,aEU,e];omega
def cz.RU {km:List Nat}{sm:List cn}{lo:cn}{kM hi:Option cn}{Lm Lb:List bq}{pm pb:List Nat}(h1:cz S km sm lo kM Lm pm)(h2:OE S k2 s2 kM hi Lb pb):cz S (km++k2) (sm++s2) lo hi (Lm++Lb) (pm++pb):=by
 induction km generalizing sm lo Lm pm with
 |nil=>cases sm<;>exact h1.elim
 |cons k km ih=>
  cases sm with
  |nil=>
   rw[cz.one]at h1;obtain⟨rfl,h1⟩:=h1;exact cz.focus.2 ⟨kM,Lm,pm,Lb,pb,h1,h2,rfl,rfl⟩
  |cons s sm=>
   rw[cz.cons]at h1;obtain⟨L1,p1,L2,p2,a,b,rfl,rfl⟩:=h1;rw[aFS,aFS,cz.cons];exact⟨L1,p1,L2++Lb,p2++pb,a,ih b,uG,uG⟩
structure fA (G:GM)(L:List bq):Prop where
 ok:uY G
 tree:(G.root=0/\L=[])\/∃h ps,ps.Nodup/\Sub G h G.root [] none L ps
def lH {page:Nat}{x:PC}(h:page∉ps):Kept G (G.put page x) ps:=λq hq=>⟨λh=>h,Jm _ _ _ _ λe=>h (e▸hq)⟩
def Ctx.write {l:List cK}{page:Nat}{lo:cn}{hi:Option cn}{Ll Lr:List bq}(hc:Ctx G h l page lo hi Ll Lr ps)(hG:uY G)(hu:G.bW page)(hn:n.ok)(hs:n.size<=512)(hf:n.leaf=true\/n.cells≠[])
 (kD:vP G h n lo hi L q) (ja:(page::(q++ps)).Nodup):fA (G.put page (.node n)) (Ll++(L++Lr)):=by
 rw[aFd]at ja;have hp:page∉q/\page∉ps:=by simpa using ja.1
 obtain⟨pF,e1,e2⟩:=(Ctx.kept (G:=G) (G':=G.put page (.node n)) rfl hc (lH hp.2)).fill (L:=L) (q:=page::q) ⟨n,q,⟨hu,ku _ _ _,hn,hs,hf⟩,kD.kept (lH hp.1),rfl⟩;exact⟨hG.put _ _,.inr ⟨_,pF,e1.nodup_iff.2 (aFd.2 ja),e2⟩⟩
end
section
variable {n:bp}{S:tx}{ks:List Nat}{ss:List cn}{L:List bq}{ps:List Nat}{G:GM}{h:Nat}{q:List Nat}
def jf (n:bp)(key:cn):Nat:=n.cells.findIdx λc=>decide (eQ key c.key)
def ta {l:List dh}(h:iS l)(p:cn->Bool)(hp:∀a b,eQ a b->p a=true->p b=true):(∀c∈l.take (l.findIdx λc=>p c.key),p c.key=false)/\∀c∈l.drop (l.findIdx λc=>p c.key),p c.key=true:=by
 induction l with
 |nil=>simp
 |cons a l ih=>
  unfold iS at h;rw[aHs]at h;obtain⟨i1,i2⟩:=ih h.2;rw[List.findIdx_cons];cases Tw:p a.key with
  |true=>
   simp only[cond_true,aGM,aFr];refine⟨uG,λc hc=>?_⟩;rcases aEP.1 hc with rfl|hc
   .exact Tw
   .exact hp _ _ (h.1 c hc) Tw
  |false=>
   simp only[cond_false,List.take_succ_cons,List.drop_succ_cons];refine⟨λc hc=>?_,i2⟩;rcases aEP.1 hc with rfl|hc
   .exact Tw
   .exact i1 c hc
def rl (h:iS n.cells)(key:cn):n.find key<=n.cells.length/\(∀c∈n.cells.take (n.find key),eQ c.key key)/\∀c∈n.cells.drop (n.find key),lp key c.key:=by
 obtain⟨h1,h2⟩:=ta h (λk=>decide (lp key k)) λa b tN ha=>by
  simp only[aGa]at*;exact(ha.zE tN).le
 refine⟨aGZ,λc hc=>?_,λc hc=>by simpa using h2 c hc⟩;have:=h1 c hc;simp only[decide_eq_false_iff_not]at this;rcases CI key c.key with h|h
 .exact absurd h this
 .exact h
def CJ (h:iS n.cells)(key:cn):jf n key<=n.cells.length/\(∀c∈n.cells.take (jf n key),lp c.key key)/\∀c∈n.cells.drop (jf n key),eQ key c.key:=by
 obtain⟨h1,h2⟩:=ta h (λk=>decide (eQ key k)) λa b tN ha=>by
  simp only[aGa]at*;exact jl ha tN
 exact⟨aGZ,λc hc=>by have:=h1 c hc;simpa[lp]using this,λc hc=>by simpa using h2 c hc⟩
def Y4 (h:iS n.cells)(key:cn):jf n key=match n.cells[n.find key]? with|some c=>if c.key=key then n.find key+1 else n.find key|none=>n.find key:=by
 obtain⟨f1,f2,f3⟩:=rl h key;obtain⟨k1,k2,k3⟩:=CJ h key
 have hle:n.find key<=jf n key:=by
  rcases aGh (jf n key) (n.find key)with hlt|oN
  .have hl:jf n key<n.cells.length:=by omega
   have a:=k3 n.cells[jf n key] (by rw[aFk hl];exact aFT);have b:=f2 n.cells[jf n key] (by rw[List.mem_iff_getElem];exact⟨jf n key,O0,uG⟩);exact absurd a (mc b)
  .exact oN
 have Rk:∀j,n.find key<=j->j<jf n key->∃hj:j<n.cells.length,n.cells[j].key=key:=λj h1 h2=>by
  have hl:j<n.cells.length:=qE
  have a:=k2 n.cells[j] (by rw[List.mem_iff_getElem];exact⟨j,O0,uG⟩);have b:=f3 n.cells[j] (by rw[List.mem_iff_getElem];exact⟨j-n.find key,Pc,by simp;congr 1;omega⟩);exact⟨hl,wH a b⟩
 cases hg:n.cells[n.find key]? with
 |none=>
  rw[List.getElem?_eq_none_iff]at hg;dsimp only;omega
 |some c=>
  obtain⟨hl,hc⟩:=aFb.1 hg;dsimp only
  by_cases he:c.key=key
  .rw[aEW he]
   have h1:n.find key<jf n key:=by
    rcases aGh (n.find key) (jf n key)with h|h
    .exact h
    .have:jf n key=n.find key:=by omega
     have a:=k3 n.cells[n.find key] (by rw[this,aFk hl];exact aFT);rw[hc,he]at a;exact absurd a (jM _)
   have h2:jf n key<=n.find key+1:=by
    rcases aGh (n.find key+1) (jf n key)with h3|h3
    .obtain⟨x1,x2⟩:=Rk (n.find key) (aEQ _) h1;obtain⟨y1,y2⟩:=Rk (n.find key+1) qE h3;have:=aHg.1 h (n.find key) (n.find key+1) x1 y1 qE;rw[x2,y2]at this;exact absurd this (jM _)
    .exact h3
   omega
  .rw[aET he];rcases aGh (n.find key) (jf n key)with h|h
   .obtain⟨x1,x2⟩:=Rk (n.find key) (aEQ _) h;rw[hc]at x2;exact absurd x2 he
   .omega
def Bj.key (hS:∀k lo hi L q,S k lo hi L q->Ce lo hi L){lo kM key:cn}(h:Bj S ks ss lo kM L ps)(uR:lp lo key)(hs:∀s∈ss,lp s key):lp kM key:=by
 induction ks generalizing ss lo L ps with
 |nil=>cases ss with
  |nil=>obtain⟨rfl,_⟩:=h;exact uR
  |cons s ss=>exact h.elim
 |cons k ks ih=>
  cases ss with
  |nil=>exact h.elim
  |cons s ss=>
   obtain⟨L1,p1,L2,p2,h1,h2,rfl,rfl⟩:=h;exact ih h2 (hs s uG) λt ht=>hs t (by simp[ht])
def OE.key {kM hi:Option cn}{key:cn}(h:OE S ks ss kM hi L ps)(Iu:En key hi)(hs:∀s∈ss,eQ key s):En key kM:=by
 cases ks with
 |nil=>cases ss with
  |nil=>obtain⟨rfl,_⟩:=h;exact Iu
  |cons s ss=>exact h.elim
 |cons k ks=>
  cases ss with
  |nil=>exact h.elim
  |cons s ss=>obtain⟨rfl,_⟩:=h;exact hs s uG
def Ctx.descend {l:List cK}{page:Nat}{lo:cn}{hi:Option cn}{Ll Lr:List bq}{key:cn}(hc:Ctx G (h+1) l page lo hi Ll Lr ps)(hn:nh G page n)(kD:vP G (h+1) n lo hi L q)(uR:lp lo key)(Iu:En key hi):
 ∃yj JG yz La Lm Lb p2 pm,n.kids[jf n key]?=some yj/\Ctx G h (⟨page,jf n key,n⟩::l) yj JG yz (Ll++La) (Lb++Lr) p2/\Sub G h yj JG yz Lm pm/\lp JG key/\En key yz/\L=La++(Lm++Lb)/\(pm++p2).Perm (page::(q++ps)):=by
 obtain⟨k1,k2,k3⟩:=CJ hn.ok.sorted key;obtain⟨c1,c2⟩:=kD;have hlen:=c2.len;rw[kq]at hlen;generalize jf n key=i at*;have fk:i<n.kids.length:=qE
 have c3:=c2;rw[Au n.kids i n.kids[i] (aES fk)]at c3;rw[<-aFD i n.ft]at c3;have Ir:(n.kids.take i).length=(n.ft.take i).length:=by rw[aFc,aFc,kq];omega
 obtain⟨JG,La,pa,L2,p2,d1,d2,rfl,rfl⟩:=(cz.split Ir).1 c3;obtain⟨yz,Lm,pm,Lb,pb,d3,d4,rfl,rfl⟩:=cz.focus.1 d2;refine⟨n.kids[i],JG,yz,La,Lm,Lb,_,pm,aES fk,⟨lo,hi,Ll,Lr,ps,La,pa,Lb,pb,hc,hn,c1,aES fk,d1,d4,rfl,rfl,rfl⟩,d3,?_,?_,rfl,?_⟩
 .refine d1.key Sub.te uR λs hs=>?_;have:s∈(n.cells.take i).map (·.key):=by rw[aGx];exact hs
  obtain⟨c,hc,rfl⟩:=aFq.1 this;exact k2 c hc
 .refine d4.key Iu λs hs=>?_;have:s∈(n.cells.drop i).map (·.key):=by rw[aGl];exact hs
  obtain⟨c,hc,rfl⟩:=aFq.1 this;exact k3 c hc
 .refine(aGC.2 λx=>?_);simp only[aGK,aGY];omega
def sn (hG:uY G){n:Nat}(h:G.bW n):n<=qZ:=by
 have:=h.2.1;have:=hG.jL;have:=hG.size;show n<=2147483647;omega
def Kept.trans {G' G'':GM}(h:Kept G G' ps)(k:Kept G' G'' ps):Kept G G'' ps:=λq hq=>⟨λhu=>(k q hq).1 ((h q hq).1 hu),by rw[(k q hq).2,(h q hq).2]⟩
def vz (ha:Mm G)(h:G.dL∉ps):Kept G G.alloc ps:=λq hq=>⟨λhu=>(ha.bW q).2 (.inl hu),ha.cont q λe=>h (e▸hq)⟩
structure Ij (G:GM)(b:bp)(G':GM)(r:Nat):Prop where
 ok:uY G'
 not:¬G.bW r
 is:nh G' r b
 kept:∀ps,r∉ps->Kept G G' ps
 root:G'.root=G.root
 free:G'.cF+1=G.cF
 aH:G'.aH=G.aH
 bW:∀q,G'.bW q↔G.bW q\/q=r
def Mh (hG:uY G)(hf:0<G.cF){b:bp}(hb:b.ok)(hs:b.size<=512)(hn:b.leaf=true\/b.cells≠[]):Ij G b (G.alloc.put G.dL (.node b)) G.dL:=by
 have ha:=ru hG hf;exact⟨ha.ok.put _ _,ha.not,⟨(ha.bW _).2 (.inr rfl),ku _ _ _,hb,hs,hn⟩,λps hp=>(vz ha hp).trans (lH hp),ha.root,ha.free,ha.aH,ha.bW⟩
def I4 {G2 G3:GM}{page r r':Nat}{a b:bp}{i:Nat}{s:cn}(hG:uY G)(hu:G.bW page)(hn:n.ok)(H:Bk n a b i s)(kD:vP G h n [] none L q)(ja:(page::q).Nodup)
 (h2:Ij (G.put page (.node a)) b G2 r) (h3:Ij G2 ⟨false,[fW s],[page,r]⟩ G3 r'):fA (G3.gM r') L:=by
 obtain⟨L1,q1,L2,q2,c1,c2,rfl,rfl⟩:=kD.cut hn H;rw[aFd]at ja;have hq1:page∉q1/\page∉q2:=by simpa using ja.1
 have u1:=c1.aH;have u2:=c2.aH;have hr:r≠page/\r∉q1/\r∉q2:=⟨λe=>h2.not (e▸hu),λh=>h2.not (u1 r h),λh=>h2.not (u2 r h)⟩;have zp:r'≠page/\r'≠r/\r'∉q1/\r'∉q2:=⟨λe=>h3.not ((h2.bW _).2 (.inl (e▸hu))),λe=>h3.not ((h2.bW _).2 (.inr e)),λh=>h3.not ((h2.bW _).2 (.inl (u1 r' h))),λh=>h3.not ((h2.bW _).2 (.inl (u2 r' h)))⟩;have kp:∀ps,page∉ps->r∉ps->r'∉ps->Kept G (G3.gM r') ps:=λps x1 x2 x3=>((lH x1).trans (h2.kept ps x2)).trans (h3.kept ps x3);have kp2:∀ps,r∉ps->r'∉ps->Kept (G.put page (.node a)) (G3.gM r') ps:=λps x2 x3=>(h2.kept ps x2).trans (h3.kept ps x3);have R4:a.leaf=true\/a.cells≠[]:=.inr H.neA;refine⟨h3.ok.gM _,.inr ⟨h+1,r'::((page::q1)++(r::q2)),?_,⟨false,[fW s],[page,r]⟩,_,⟨h3.is.bW,h3.is.cont,h3.is.ok,h3.is.size,h3.is.full⟩,⟨rfl,?_⟩,rfl⟩⟩
 .have xM:=ja.2;rw[aFM]at xM;obtain⟨n1,n2,n3⟩:=xM;simp only[aFS,aFd,aEP,aEY,aGk,aFM]
  exact⟨⟨zp.1,zp.2.2.1,zp.2.1,zp.2.2.2⟩,⟨hq1.1,aFL hr.1,hq1.2⟩,n1,⟨hr.2.2,n2⟩,λx hx y hy=>by
   rcases hy with rfl|hy
   .exact λe=>hr.2.1 (e▸hx)
   .exact n3 x hx y hy⟩
 .show cz (Sub (G3.gM r') h) [page,r] [s] [] none (L1++L2) _;rw[cz.cons];refine⟨L1,page::q1,L2,r::q2,⟨a,q1,?_,c1.kept (kp q1 hq1.1 hr.2.1 zp.2.2.1),rfl⟩,?_,rfl,rfl⟩
  .exact nh.kept (G:=G.put page (.node a)) ⟨hu,ku _ _ _,H.Ol,H.szA,R4⟩ (kp2 [page] (by simpa using hr.1) (by simpa using zp.1))
  .rw[cz.one];refine⟨rfl,b,q2,h2.is.kept (h3.kept [r] (by simpa using zp.2.1)),c2.kept (kp q2 hq1.2 hr.2.2 zp.2.2.2),rfl⟩
end
section
variable {s:cn}{L:List bq}{q:List Nat}{n:bp}{i r:Nat}
def more (n:bp)(i:Nat)(s:cn)(r:Nat):bp:=⟨false,n.cells.take i++fW s::n.cells.drop i,n.kids.take (i+1)++r::n.kids.drop (i+1)⟩
def M5 (n:bp)(i:Nat)(s:cn)(r:Nat):(more n i s r).ft=n.ft.take i++([s]++n.ft.drop i):=by
 unfold bp.ft more;simp[fW,aGx,aGl]
def tE (h:s.length<=48):(fW s).ok false:=⟨h,λ_=>⟨rfl,rfl,rfl⟩,λh=>(by cases h),λh=>(by cases h)⟩
def Ei {S:tx}(hS:∀k lo hi L q,S k lo hi L q->Ce lo hi L){m:bp}{lo:cn}{hi:Option cn}(hl:m.leaf=false)(hc:∀c∈m.cells,c.ok false)(hk:∀k∈m.kids,k<=qZ)(h:cz S m.kids m.ft lo hi L q):m.ok:=by
 obtain⟨_,_,h3⟩:=h.facts hS;refine⟨by rw[hl];exact hc,?_,?_,hk⟩
 .unfold bp.ft at h3;rw[aGR]at h3;exact h3
 .rw[hl,aET u7,h.len,kq]
def iC (leaf:Bool)(l:List dh)(i:Nat):(cT leaf (l.take i)).length+(cT leaf (l.drop i)).length=(cT leaf l).length:=by
 rw[<-aEU,<-eE,aFD]
def rJ (l:List Nat)(i:Nat):(eY (l.take i)).length+(eY (l.drop i)).length=(eY l).length:=by
 rw[<-aEU,<-iV,aFD]
def TW (m:Nat):(uv (m+1)).length<=(uv m).length+1:=by
 induction m using Nat.strongRecOn with
 |_ n ih=>
  by_cases hn:127<n
  .rw[iR hn,iR (n:=n+1) qE,aFp,aFp];have h3:=ih (n/128) qE;have h4:(uv ((n+1)/128)).length<=(uv (n/128+1)).length:=vT qE;omega
  .have:(uv (n+1)).length<=2:=qF qE;rw[eM (n:=n) qE];omega
def M4 (hl:n.leaf=false)(hi:i<=n.cells.length)(hs:s.length<=48)(hr:r<=qZ):(more n i s r).size<=n.size+55:=by
 rw[ck,ck,hl];have h1:=iC false n.cells i;have h2:=rJ n.kids (i+1);have h3:=(iD (tE hs)).2.2 rfl;have h4:=(kh r hr).2;have h5:=TW n.cells.length;have e:(more n i s r).cells.length=n.cells.length+1:=by unfold more;simp;omega
 rw[e];unfold more;simp only[aEM,aFa,eE,fC,iV,ot,aEU];omega
def MA {G G2:GM}{sm:cK}{l:List cK}{h page:Nat}{lo:cn}{hi:Option cn}{Ll Lr:List bq}{ps:List Nat}{a b:bp}(hc:Ctx G h (sm::l) page lo hi Ll Lr ps)(hG:uY G)(hu:G.bW page)(hn:n.ok)(H:Bk n a b i s)(kD:vP G h n lo hi L q)(ja:(page::(q++ps)).Nodup)
 (h2:Ij (G.put page (.node a)) b G2 r):sm.at_<=sm.n.cells.length/\sm.n.leaf=false/\(more sm.n sm.at_ s r).ok/\(more sm.n sm.at_ s r).size<=600/\G2.bW sm.page/\
  ∃la fk yZ yY L' pF q',Ctx G2 (h+1) l sm.page la fk yZ yY pF/\vP G2 (h+1) (more sm.n sm.at_ s r) la fk L' q'/\(sm.page::(q'++pF)).Nodup/\yZ++(L'++yY)=Ll++(L++Lr):=by
 obtain⟨la,fk,yZ,yY,pF,La,pa,Lb,pb,d1,d2,d3,d4,d5,d6,rfl,rfl,rfl⟩:=hc;obtain⟨L1,q1,L2,q2,c1,c2,rfl,rfl⟩:=kD.cut hn H;obtain⟨lL,_⟩:=aFb.1 d4;have rO:=d2.ok.jw;rw[d3,aET u7]at rO;have Ff:sm.at_<=sm.n.cells.length:=qE
 have BQ:s.length<=48:=by rw[H.key];exact(hn.cell _ (aFj ..)).key
 have hrm:=sn h2.ok h2.is.bW;have jg:∀x,G.bW x->x≠r:=λx hx e=>h2.not (e▸hx)
 have upa:∀x,x∈pa\/x∈pb\/x∈pF\/x=sm.page->G.bW x:=λx hx=>by
  have hcx:=Ctx.aH (l:=sm::l) (page:=page) (h:=h) ⟨la,fk,yZ,yY,pF,La,pa,Lb,pb,d1,d2,d3,d4,d5,d6,rfl,rfl,rfl⟩;refine hcx x ?_;simp only[aEP,aEY];rcases hx with h|h|h|h<;>simp[h]
 have GZ:=ja;simp only[aFd,aEY,aEP,aGk,aFM]at ja;obtain⟨⟨⟨y1,y2⟩,y3,y4,y5,y6⟩,⟨y7,y8,y9⟩,⟨⟨z1,z2,z3⟩,z4,⟨z5,z6,z7⟩,z8⟩,z9⟩:=ja;have kp:=λps x1 x2=>(lH x1).trans (h2.kept ps x2)
 have k1:Kept G G2 (sm.page::(pa++(pb++pF))):=kp _ (by simp only[aEP,aEY,aGk];exact⟨y3,y4,y5,y6⟩) (λhr=>by
  simp only[aEP,aEY]at hr;refine jg r (upa r ?_) rfl;rcases hr with h|h|h|h<;>simp[h])
 have R4:a.leaf=true\/a.cells≠[]:=.inr H.neA;have hr1:r∉q1:=λhh=>jg r (c1.aH r hh) rfl;have Fe:r∉q2:=λhh=>jg r (c2.aH r hh) rfl;have hrp:r≠page:=λe=>jg page hu e.symm;have sa:Sub G2 h page lo (some s) L1 (page::q1):=⟨a,q1,nh.kept (G:=G.put page (.node a)) ⟨hu,ku _ _ _,H.Ol,H.szA,R4⟩ (h2.kept _ (by simpa using hrp)),c1.kept (kp _ y1 hr1),rfl⟩;have sb:Sub G2 h r s hi L2 (r::q2):=⟨b,q2,h2.is,c2.kept (kp _ y2 Fe),rfl⟩;have ZW:=cz.cons.2 ⟨L1,_,L2,_,sa,cz.one.2 ⟨rfl,sb⟩,rfl,rfl⟩;have ka:=d5.mono (S':=Sub G2 h) λ_ _ _ _ qq hq hS=>hS.kept (k1.sub λx hx=>TP);have kb:=d6.mono (S':=Sub G2 h) λ_ _ _ _ qq hq hS=>hS.kept (k1.sub λx hx=>TP);have oI:sm.n.kids.take (sm.at_+1)=sm.n.kids.take sm.at_++[page]:=by rw[aFe lL];congr 2
 have eU:cz (Sub G2 h) (more sm.n sm.at_ s r).kids (more sm.n sm.at_ s r).ft la fk (La++((L1++L2)++Lb)) (pa++(((page::q1)++(r::q2))++pb)):=by
  rw[M5]
  have e:(more sm.n sm.at_ s r).kids=sm.n.kids.take sm.at_++([page,r]++sm.n.kids.drop (sm.at_+1)):=by
   show sm.n.kids.take (sm.at_+1)++r::_=_;rw[oI];simp
  rw[e];exact(cz.split d5.len).2 ⟨lo,La,pa,_,_,ka,ZW.RU kb,rfl,rfl⟩
 have mU:(more sm.n sm.at_ s r).ok:=by
  refine Ei Sub.te rfl (λc hc=>?_) (λk hk=>?_) eU
  .have hc:c∈sm.n.cells.take sm.at_++fW s::sm.n.cells.drop sm.at_:=hc;have iL:∀c∈sm.n.cells,c.ok false:=by have:=d2.ok.cell;rw[d3]at this;exact this
   rcases aEY.1 hc with hc|hc
   .exact iL c (aFz hc)
   .rcases aEP.1 hc with rfl|hc
    .exact tE BQ
    .exact iL c (aFF hc)
  .have hk:k∈sm.n.kids.take (sm.at_+1)++r::sm.n.kids.drop (sm.at_+1):=hk;rcases aEY.1 hk with hk|hk
   .exact d2.ok.CK k (aFz hk)
   .rcases aEP.1 hk with rfl|hk
    .exact hrm
    .exact d2.ok.CK k (aFF hk)
 refine⟨Ff,d3,mU,?_,k1 sm.page (by simp)|>.1 d2.bW,la,fk,yZ,yY,_,pF,_,Ctx.kept (G:=G) h2.root d1 (k1.sub λx hx=>Yi),⟨rfl,eU⟩,?_,uG⟩
 .have:=M4 d3 Ff BQ hrm (n:=sm.n);have:=d2.size;omega
 .have Ov:=λx hx=>jg x (upa x hx)
  have hP:(sm.page::((pa++(((page::q1)++(r::q2))++pb))++pF)).Perm (r::(page::((q1++q2)++(sm.page::(pa++(pb++pF)))))):=by
   refine(aGC.2 λx=>?_);simp only[aGK,aGY];omega
  refine hP.nodup_iff.2 (aFd.2 ⟨?_,GZ⟩);simp only[aEP,aEY,aGk];exact⟨hrp,⟨hr1,Fe⟩,λe=>Ov _ (.inr (.inr (.inr rfl))) e.symm,λh=>Ov _ (.inl h) rfl,λh=>Ov _ (.inr (.inl h)) rfl,λh=>Ov _ (.inr (.inr (.inl h))) rfl⟩
end
section
variable {l:List cK}{i:Nat}{G:GM}{sm:cK}{h:Nat}{Ll Lr L:List bq}{ps q:List Nat}{n:bp}{left:Nat}{first second:bp}{sep:cn}{pf pn:Nat}{LL:List bq}
structure uf where
 la:cn
 fk:Option cn
 yZ:List bq
 yY:List bq
 pF:List Nat
 La:List bq
 pa:List Nat
 Lb:List bq
 pb:List Nat
 JG:cn
 yz:Option cn
 L1:List bq
 q1:List Nat
 L2:List bq
 q2:List Nat
structure vM (G:GM)(h:Nat)(sm:cK)(l:List cK)(left:Nat)(first second:bp)(sep:cn)(pf pn:Nat)(LL:List bq)(aH:List Nat)(d:uf):Prop where
 ctx:Ctx G (h+1) l sm.page d.la d.fk d.yZ d.yY d.pF
 node:nh G sm.page sm.n
 inner:sm.n.leaf=false
 QB:sm.n.kids[left]?=some pf
 UY:sm.n.kids[left+1]?=some pn
 alL:sm.n.ft[left]?=some sep
 kl:Bj (Sub G h) (sm.n.kids.take left) (sm.n.ft.take left) d.la d.JG d.La d.pa
 c1:vP G h first d.JG (some sep) d.L1 d.q1
 c2:vP G h second sep d.yz d.L2 d.q2
 kr:OE (Sub G h) (sm.n.kids.drop (left+2)) (sm.n.ft.drop (left+1)) d.yz d.fk d.Lb d.pb
 total:d.yZ++((d.La++((d.L1++d.L2)++d.Lb))++d.yY)=LL
 perm:(pf::pn::((d.q1++d.q2)++(sm.page::(d.pa++(d.pb++d.pF))))).Perm aH
 u1:G.bW pf
 u2:G.bW pn
 UH:first.ok
 ok2:second.ok
def Dc {α:Type}{l:List α}{x:α}{r:List α}(h:l.drop i=x::r):l[i]?=some x/\l.drop (i+1)=r:=by
 have hi:i<l.length:=by
  rcases aGh i l.length with h2|h2
  .exact h2
  .rw[aFu h2]at h;cases h
 rw[aFk hi]at h;simp only[aGn]at h;exact⟨by rw[aES hi,h.1],h.2⟩
def MC {page:Nat}{lo:cn}{hi:Option cn}(hc:Ctx G h (sm::l) page lo hi Ll Lr ps)(hu:G.bW page)(hn:n.ok)(kD:vP G h n lo hi L q)(lL:sm.at_+1<sm.n.kids.length):
 ∃other pn sep d,nh G pn other/\vM G h sm l sm.at_ n other sep page pn (Ll++(L++Lr)) (page::(q++ps)) d:=by
 obtain⟨la,fk,yZ,yY,pF,La,pa,Lb,pb,d1,d2,d3,d4,d5,d6,rfl,rfl,rfl⟩:=hc;have rO:=d2.ok.jw;rw[d3,aET u7]at rO;obtain⟨k2,r2,nK⟩:∃k r,sm.n.kids.drop (sm.at_+1)=k::r:=⟨_,_,aFk lL⟩;obtain⟨s2,t2,Ou⟩:∃s t,sm.n.ft.drop sm.at_=s::t:=⟨_,_,aFk (by rw[kq];omega)⟩;rw[nK,Ou]at d6;obtain⟨rfl,e1⟩:=d6;obtain⟨kM,L1,p1,L2,p2,e2,e3,rfl,rfl⟩:=cz.focus.1 e1;obtain⟨other,qo,f1,f2,rfl⟩:=e2;obtain⟨g1,g2⟩:=Dc nK;obtain⟨g3,g4⟩:=Dc Ou;refine⟨other,k2,s2,⟨la,fk,yZ,yY,pF,La,pa,L2,p2,lo,kM,L,q,L1,qo⟩,f1,⟨d1,d2,d3,d4,g1,g3,d5,kD,f2,by rw[g2,g4];exact e3,uG,?_,hu,f1.bW,hn,f1.ok⟩⟩;refine(aGC.2 λx=>?_);simp only[aGK,aGY];omega
def PA {page:Nat}{lo:cn}{hi:Option cn}{at':Nat}(hc:Ctx G h (sm::l) page lo hi Ll Lr ps)(hu:G.bW page)(hn:n.ok)(kD:vP G h n lo hi L q)(lL:sm.at_=at'+1):
 ∃other pf sep d,nh G pf other/\vM G h sm l at' other n sep pf page (Ll++(L++Lr)) (page::(q++ps)) d:=by
 obtain⟨la,fk,yZ,yY,pF,La,pa,Lb,pb,d1,d2,d3,d4,d5,d6,rfl,rfl,rfl⟩:=hc;have rO:=d2.ok.jw;rw[d3,aET u7]at rO;obtain⟨aqn,_⟩:=aFb.1 d4;rw[lL]at d4 d5 d6 aqn;have pP:at'<sm.n.kids.length:=qE
 have JN:at'<sm.n.ft.length:=by rw[kq];omega
 rw[aFe pP,aFe JN]at d5;obtain⟨m,L1,p1,L2,p2,e1,e2,rfl,rfl⟩:=(Bj.append (by rw[aFc,aFc];omega)).1 d5;obtain⟨L3,p3,L4,p4,e3,⟨e4,rfl,rfl⟩,rfl,rfl⟩:=e2;subst e4;obtain⟨other,qo,f1,f2,rfl⟩:=e3;refine⟨other,sm.n.kids[at'],sm.n.ft[at'],⟨la,fk,yZ,yY,pF,L1,p1,Lb,pb,m,hi,L3,qo,L,q⟩,f1,⟨d1,d2,d3,aES pP,d4,aES JN,e1,f2,kD,d6,uG,?_,f1.bW,hu,f1.ok,hn⟩⟩;refine(aGC.2 λx=>?_);simp only[aGK,aGY,List.count_nil];omega
def uq (n:bp)(i:Nat):bp:=⟨false,n.cells.take i++n.cells.drop (i+1),n.kids.take (i+1)++n.kids.drop (i+2)⟩
def jE (n:bp)(i:Nat)(s:cn):bp:=⟨false,n.cells.take i++fW s::n.cells.drop (i+1),n.kids⟩
structure za (G:GM)(h:Nat)(page:Nat)(l:List cK)(m:bp)(LL:List bq):Prop where
 ok:uY G
 bW:G.bW page
 JE:m.ok
 ctx:∃lo hi Ll Lr L ps q,Ctx G h l page lo hi Ll Lr ps/\vP G h m lo hi L q/\(page::(q++ps)).Nodup/\Ll++(L++Lr)=LL
def vK {aH:List Nat}{d:uf}(b:vM G h sm l left first second sep pf pn LL aH d):sep.length<=48/\left<sm.n.cells.length/\sm.n.kids.length=sm.n.cells.length+1/\∃c,sm.n.cells[left]?=some c/\c.key=sep:=by
 have hs:=b.alL;unfold bp.ft at hs;rw[aFA]at hs;have rO:=b.node.ok.jw;rw[b.inner,aET u7]at rO;cases hc:sm.n.cells[left]? with
 |none=>rw[hc]at hs;cases hs
 |some c=>
  rw[hc]at hs;have:c.key=sep:=aHj hs;obtain⟨hl,oO⟩:=aFb.1 hc;exact⟨by rw[<-this];exact(b.node.ok.cell c (aFJ hc)).key,hl,rO,c,rfl,this⟩
def HQ {aH:List Nat}{d:uf}(b:vM G h sm l left first second sep pf pn LL aH d)(hG:uY G)(ja:aH.Nodup)(hs:(dG first sep second).size<=512):
 (G.put pf (.node (dG first sep second))).bW pn/\za ((G.put pf (.node (dG first sep second))).drop pn) (h+1) sm.page l (uq sm.n left) LL/\(uq sm.n left).size<=512/\((G.put pf (.node (dG first sep second))).drop pn).cF=G.cF+1:=by
 obtain⟨s48,hl,rO,c,hc,rh⟩:=vK b;obtain⟨j1,j2,j3⟩:=b.c1.join b.c2 b.UH b.ok2 s48;have GZ:=b.perm.nodup_iff.2 ja;have xM:=GZ;simp only[aFd,aEY,aEP,aGk,aFM]at xM;obtain⟨⟨x1,⟨x2,x3⟩,x4,x5,x6,x7⟩,⟨⟨x8,x9⟩,dd,dm,dw,dj⟩,-⟩:=xM;have hD:=tU (hG.put pf (.node (dG first sep second))) (show(G.put pf _).bW pn from b.u2)
 have jh:(dG first sep second).leaf=true\/(dG first sep second).cells≠[]:=by
  unfold dG;split
  .exact .inl rfl
  .exact .inr uG
 have kp:∀ps,pf∉ps->pn∉ps->Kept G ((G.put pf (.node (dG first sep second))).drop pn) ps:=λps a b q hq=>⟨λhu=>(hD.bW q).2 ⟨hu,λe=>b (e▸hq)⟩,Jm _ _ _ _ λe=>a (e▸hq)⟩;have ij:pf≠pn:=x1
 have sw:Sub ((G.put pf (.node (dG first sep second))).drop pn) h pf d.JG d.yz (d.L1++d.L2) (pf::(d.q1++d.q2)):=
  ⟨_,_,⟨(hD.bW pf).2 ⟨b.u1,ij⟩,ku _ _ _,j2,hs,jh⟩,j1.kept (kp _ (by simp;exact⟨x2,x3⟩) (by simp;exact⟨x8,x9⟩)),rfl⟩
 have kc:Kept G ((G.put pf (.node (dG first sep second))).drop pn) (sm.page::(d.pa++(d.pb++d.pF))):=kp _ acp acq;have ka:=b.kl.mono (S':=Sub ((G.put pf (.node (dG first sep second))).drop pn) h) λ_ _ _ _ qq hq hS=>hS.kept (kc.sub λx hx=>TP);have kb:=b.kr.mono (S':=Sub ((G.put pf (.node (dG first sep second))).drop pn) h) λ_ _ _ _ qq hq hS=>hS.kept (kc.sub λx hx=>TP);obtain⟨pP,aaa⟩:=aFb.1 b.QB
 have eU:cz (Sub ((G.put pf (.node (dG first sep second))).drop pn) h) (uq sm.n left).kids (uq sm.n left).ft d.la d.fk (d.La++((d.L1++d.L2)++d.Lb)) (d.pa++((pf::(d.q1++d.q2))++d.pb)):=by
  have e1:(uq sm.n left).ft=sm.n.ft.take left++([]++sm.n.ft.drop (left+1)):=by unfold bp.ft uq;simp[aGx,aGl]
  have e2:(uq sm.n left).kids=sm.n.kids.take left++([pf]++sm.n.kids.drop (left+2)):=by
   show sm.n.kids.take (left+1)++_=_;rw[aFe pP,aaa];simp
  rw[e1,e2];exact(cz.split b.kl.len).2 ⟨d.JG,d.La,d.pa,_,_,ka,cz.RU (cz.one.2 ⟨rfl,sw⟩) kb,rfl,rfl⟩
 have iL:∀c∈sm.n.cells,c.ok false:=abN
 have ZV:(uq sm.n left).ok:=by
  refine Ei Sub.te rfl (λc hc=>?_) (λk hk=>?_) eU
  .have hc:c∈sm.n.cells.take left++sm.n.cells.drop (left+1):=hc;rcases aEY.1 hc with hc|hc
   .exact iL c (aFz hc)
   .exact iL c (aFF hc)
  .have hk:k∈sm.n.kids.take (left+1)++sm.n.kids.drop (left+2):=hk;rcases aEY.1 hk with hk|hk
   .exact b.node.ok.CK k (aFz hk)
   .exact b.node.ok.CK k (aFF hk)
 refine⟨b.u2,⟨hD.ok,(kc sm.page uG).1 b.node.bW,ZV,d.la,d.fk,d.yZ,d.yY,_,d.pF,_,Ctx.kept (G:=G) (G':=(G.put pf (.node (dG first sep second))).drop pn) rfl b.ctx (kc.sub λx hx=>Yi),⟨rfl,eU⟩,?_,b.total⟩,?_,hD.free⟩
 .have hP:(pn::(sm.page::((d.pa++((pf::(d.q1++d.q2))++d.pb))++d.pF))).Perm (pf::pn::((d.q1++d.q2)++(sm.page::(d.pa++(d.pb++d.pF))))):=by
   refine(aGC.2 λx=>?_);simp only[aGK,aGY];omega
  exact(aFd.1 (hP.nodup_iff.2 GZ)).2
 .have:=b.node.size;rw[ck,b.inner]at this;rw[ck];have h1:=iC false sm.n.cells left
  have h2:(cT false (sm.n.cells.drop (left+1))).length<=(cT false (sm.n.cells.drop left)).length:=by
   rw[aFk hl,fC,aEU];omega
  have h3:=rJ sm.n.kids (left+1)
  have h4:(eY (sm.n.kids.drop (left+2))).length<=(eY (sm.n.kids.drop (left+1))).length:=by
   rw[aFk (show left+1<sm.n.kids.length from qE)];show _<=(eY (_::sm.n.kids.drop (left+2))).length;rw[ot,aEU];omega
  have e:(uq sm.n left).cells.length=sm.n.cells.length-1:=by unfold uq;simp;omega
  have h5:(uv (sm.n.cells.length-1)).length<=(uv sm.n.cells.length).length:=vT qE;rw[e];unfold uq;simp only[aEM,aFa,eE,iV,aEU]at this⊢;omega
def E4 {aH:List Nat}{d:uf}(b:vM G h sm l left first second sep pf pn LL aH d)(hG:uY G)(ja:aH.Nodup){a c:bp}{s:cn}(H:Bk (dG first sep second) a c i s):
 za ((G.put pf (.node a)).put pn (.node c)) (h+1) sm.page l (jE sm.n left s) LL/\(jE sm.n left s).size<=600/\(G.put pf (.node a)).bW pn/\((G.put pf (.node a)).put pn (.node c)).cF=G.cF:=by
 obtain⟨s48,hl,rO,c0,J9,rh⟩:=vK b;obtain⟨j1,j2,j3⟩:=b.c1.join b.c2 b.UH b.ok2 s48;have BQ:s.length<=48:=by rw[H.key];exact(j2.cell _ (aFj ..)).key
 obtain⟨L1,q1,L2,q2,c1,c2,eL,eq⟩:=j1.cut j2 H;have GZ:=b.perm.nodup_iff.2 ja;rw[eq]at GZ;have xM:=GZ;simp only[aFd,aEY,aEP,aGk,aFM]at xM;obtain⟨⟨x1,⟨x2,x3⟩,x4,x5,x6,x7⟩,⟨⟨x8,x9⟩,dd,dm,dw,dj⟩,-⟩:=xM;have kp:∀ps,pf∉ps->pn∉ps->Kept G ((G.put pf (.node a)).put pn (.node c)) ps:=λps y1 y2=>(lH y1).trans (lH y2)
 have sa:Sub ((G.put pf (.node a)).put pn (.node c)) h pf d.JG (some s) L1 (pf::q1):=
  ⟨a,q1,⟨b.u1,(Jm _ _ _ _ x1).trans (ku _ _ _),H.Ol,H.szA,.inr H.neA⟩,c1.kept (kp _ x2 x8),rfl⟩
 have sc:Sub ((G.put pf (.node a)).put pn (.node c)) h pn s d.yz L2 (pn::q2):=
  ⟨c,q2,⟨b.u2,ku _ _ _,H.okB,H.szB,.inr H.neB⟩,c2.kept (kp _ x3 x9),rfl⟩
 have kc:Kept G ((G.put pf (.node a)).put pn (.node c)) (sm.page::(d.pa++(d.pb++d.pF))):=kp _ acp acq;have ka:=b.kl.mono (S':=Sub ((G.put pf (.node a)).put pn (.node c)) h) λ_ _ _ _ qq hq hS=>hS.kept (kc.sub λx hx=>TP);have kb:=b.kr.mono (S':=Sub ((G.put pf (.node a)).put pn (.node c)) h) λ_ _ _ _ qq hq hS=>hS.kept (kc.sub λx hx=>TP);obtain⟨pP,aaa⟩:=aFb.1 b.QB;obtain⟨nK,aoW⟩:=aFb.1 b.UY
 have eU:cz (Sub ((G.put pf (.node a)).put pn (.node c)) h) (jE sm.n left s).kids (jE sm.n left s).ft d.la d.fk (d.La++((L1++L2)++d.Lb)) (d.pa++(((pf::q1)++(pn::q2))++d.pb)):=by
  have e1:(jE sm.n left s).ft=sm.n.ft.take left++([s]++sm.n.ft.drop (left+1)):=by unfold bp.ft jE;simp[fW,aGx,aGl]
  have e2:(jE sm.n left s).kids=sm.n.kids.take left++([pf,pn]++sm.n.kids.drop (left+2)):=by
   show sm.n.kids=_
   conv=>lhs;rw[<-aFD left sm.n.kids,aFk pP,aFk nK,aaa,aoW]
   rfl
  rw[e1,e2];exact(cz.split b.kl.len).2 ⟨d.JG,d.La,d.pa,_,_,ka,cz.RU (cz.cons.2 ⟨L1,_,L2,_,sa,cz.one.2 ⟨rfl,sc⟩,rfl,rfl⟩) kb,rfl,rfl⟩
 have iL:∀c∈sm.n.cells,c.ok false:=abN
 have ZV:(jE sm.n left s).ok:=by
  refine Ei Sub.te rfl (λc hc=>?_) (λk hk=>b.node.ok.CK k hk) eU;have hc:c∈sm.n.cells.take left++fW s::sm.n.cells.drop (left+1):=hc;rcases aEY.1 hc with hc|hc
  .exact iL c (aFz hc)
  .rcases aEP.1 hc with rfl|hc
   .exact tE BQ
   .exact iL c (aFF hc)
 refine⟨⟨(hG.put _ _).put _ _,(kc sm.page uG).1 b.node.bW,ZV,d.la,d.fk,d.yZ,d.yY,_,d.pF,_,Ctx.kept (G:=G) (G':=(G.put pf (.node a)).put pn (.node c)) rfl b.ctx (kc.sub λx hx=>Yi),⟨rfl,eU⟩,?_,by rw[<-eL];exact b.total⟩,?_,b.u2,rfl⟩
 .have hP:(sm.page::((d.pa++(((pf::q1)++(pn::q2))++d.pb))++d.pF)).Perm (pf::pn::((q1++q2)++(sm.page::(d.pa++(d.pb++d.pF))))):=by
   refine(aGC.2 λx=>?_);simp only[aGK,aGY];omega
  exact hP.nodup_iff.2 GZ
 .have:=b.node.size;rw[ck,b.inner]at this;rw[ck];have h1:=iC false sm.n.cells left
  have h2:(cT false (sm.n.cells.drop (left+1))).length<=(cT false (sm.n.cells.drop left)).length:=by
   rw[aFk hl,fC,aEU];omega
  have h3:=(iD (tE BQ)).2.2 rfl;have e:(jE sm.n left s).cells.length=sm.n.cells.length:=by unfold jE;simp;omega
  rw[e];unfold jE;simp only[aEM,aFa,eE,fC,aEU]at this⊢;omega
end
section
variable {p:bq->Bool}{A B:List bq}{v:List UInt8}
def mR (L:List bq)(key:cn)(v:List UInt8):List bq:=L.filter (λx=>decide (eQ x.1 key))++(key,v)::L.filter (λx=>decide (eQ key x.1))
def rp (L:List bq)(key:cn):List bq:=L.filter (λx=>decide (eQ x.1 key))++L.filter (λx=>decide (eQ key x.1))
def fE (L:List bq)(key:cn):Option (List UInt8):=(L.find? λx=>decide (x.1=key)).map (·.2)
def AY {L:List bq}(h:∀x∈L,p x=true):L.filter p=L:=List.filter_eq_self.2 h
def tb {L:List bq}(h:∀x∈L,p x=false):L.filter p=[]:=List.filter_eq_nil_iff.2 λx hx=>by simp[h x hx]
def Al {key:cn}(hA:∀x∈A,eQ x.1 key)(hB:∀x∈B,eQ key x.1):(A++B).filter (λx=>decide (eQ x.1 key))=A/\(A++B).filter (λx=>decide (eQ key x.1))=B:=by
 rw[aGy,aGy];refine⟨?_,?_⟩
 .rw[AY λx hx=>by simpa using hA x hx,tb λx hx=>by simpa using mc (hB x hx),aFN]
 .rw[tb λx hx=>by simpa using mc (hA x hx),AY λx hx=>by simpa using hB x hx,aFt]
def wE {key:cn}(hA:∀x∈A,eQ x.1 key)(hB:∀x∈B,eQ key x.1):(A++(key,v)::B).filter (λx=>decide (eQ x.1 key))=A/\(A++(key,v)::B).filter (λx=>decide (eQ key x.1))=B:=by
 have hk:decide (eQ key key)=false:=by simpa using jM key
 rw[aGy,aGy,aGo,aGo];simp only[hk,aEM,aFa];rw[<-aGy,<-aGy];exact Al hA hB
def PZ {key:cn}(hA:∀x∈A,eQ x.1 key)(hB:∀x∈B,eQ key x.1):mR (A++B) key v=A++(key,v)::B:=by
 unfold mR;obtain⟨h1,h2⟩:=Al hA hB;rw[h1,h2]
def PY {key:cn}{w:List UInt8}(hA:∀x∈A,eQ x.1 key)(hB:∀x∈B,eQ key x.1):mR (A++(key,w)::B) key v=A++(key,v)::B:=by
 unfold mR;obtain⟨h1,h2⟩:=wE (v:=w) hA hB;rw[h1,h2]
def Ss {key:cn}{w:List UInt8}(hA:∀x∈A,eQ x.1 key)(hB:∀x∈B,eQ key x.1):rp (A++(key,w)::B) key=A++B:=by
 unfold rp;obtain⟨h1,h2⟩:=wE (v:=w) hA hB;rw[h1,h2]
def Su {key:cn}(hA:∀x∈A,eQ x.1 key)(hB:∀x∈B,eQ key x.1):rp (A++B) key=A++B:=by
 unfold rp;obtain⟨h1,h2⟩:=Al hA hB;rw[h1,h2]
def Ht {key:cn}{w:List UInt8}(hA:∀x∈A,eQ x.1 key):fE (A++(key,w)::B) key=some w:=by
 unfold fE;rw[aHB]
 have:A.find? (λx=>decide (x.1=key))=none:=by
  rw[List.find?_eq_none];intro x hx;simpa using (hA x hx).ne
 rw[this];simp
def RV {key:cn}(hA:∀x∈A,eQ x.1 key)(hB:∀x∈B,eQ key x.1):fE (A++B) key=none:=by
 unfold fE
 have:(A++B).find? (λx=>decide (x.1=key))=none:=by
  rw[List.find?_eq_none];intro x hx;rcases aEY.1 hx with hx|hx
  .simpa using (hA x hx).ne
  .simpa using aFL (hB x hx).ne
 rw[this];rfl
def mm (G:GM)(key:cn)(f:cK)(rest:List cK)(L:List bq):Prop:=
 ∃lo hi Ll Lr Lm ps q,Ctx G 0 rest f.page lo hi Ll Lr ps/\nh G f.page f.n/\vP G 0 f.n lo hi Lm q/\lp lo key/\En key hi/\(f.page::(q++ps)).Nodup/\Ll++(Lm++Lr)=L/\f.at_=f.n.find key
structure oE (G:GM)(key:cn)(f:cK)(rest:List cK)(L:List bq)(lo:cn)(hi:Option cn)(Ll Lr:List bq)(ps:List Nat)(Lt:List bq)(pt:List Nat)(Ld:List bq)(pd:List Nat):Prop where
 ctx:Ctx G 0 rest f.page lo hi Ll Lr ps
 node:nh G f.page f.n
 leaf:f.n.leaf=true
 lt:En lo hi
 klo:lp lo key
 khi:En key hi
 nd:(f.page::((pt++pd)++ps)).Nodup
 total:Ll++((Lt++Ld)++Lr)=L
 at_:f.at_=f.n.find key
 le:f.at_<=f.n.cells.length
 cl:ff G (f.n.cells.take f.at_) Lt pt
 cd:ff G (f.n.cells.drop f.at_) Ld pd
 E0:∀c∈f.n.cells,lp lo c.key/\En c.key hi
 kt:∀x∈Lt,eQ x.1 key
 kd:∀x∈Ld,lp key x.1
 kl:∀x∈Ll,eQ x.1 key
 kr:∀x∈Lr,eQ key x.1
def UT {key:cn}{hi:Option cn}{k:cn}(h:En key hi)(h2:leh hi k):eQ key k:=by
 cases hi with
 |none=>exact h2.elim
 |some m=>have h:eQ key m:=h;exact h.ko h2
def pq {G:GM}{cs:List dh}{L:List bq}{ps:List Nat}(h:ff G cs L ps){x:bq}(hx:x∈L):∃c∈cs,c.key=x.1:=by
 have:x.1∈cs.map (·.key):=by rw[<-h.keys];exact aFX hx
 obtain⟨c,hc,e⟩:=aFq.1 this;exact⟨c,hc,e⟩
def mm.Ap {G:GM}{key:cn}{f:cK}{rest:List cK}{L:List bq}(h:mm G key f rest L):∃lo hi Ll Lr ps Lt pt Ld pd,oE G key f rest L lo hi Ll Lr ps Lt pt Ld pd:=by
 obtain⟨lo,hi,Ll,Lr,Lm,ps,q,h1,h2,⟨c1,c2,c3,c4⟩,h4,h5,h6,h7,h8⟩:=h;obtain⟨g1,g2,g3⟩:=rl h2.ok.sorted key;rw[<-h8]at g1 g2 g3;rw[<-aFD f.at_ f.n.cells]at c3;obtain⟨Lt,pt,Ld,pd,d1,d2,rfl,rfl⟩:=ff.append.1 c3;obtain⟨s1,s2⟩:=h1.adI;refine⟨lo,hi,Ll,Lr,ps,Lt,pt,Ld,pd,h1,h2,c1,c2,h4,h5,h6,h7,h8,g1,d1,d2,c4,λx hx=>?_,λx hx=>?_,λx hx=>(s1 x hx).ko h4,λx hx=>UT h5 (s2 x hx)⟩
 .obtain⟨c,hc,e⟩:=pq d1 hx;rw[<-e];exact g2 c hc
 .obtain⟨c,hc,e⟩:=pq d2 hx;rw[<-e];exact g3 c hc
section
variable {G:GM} {key:cn} {f:cK} {rest:List cK} {L:List bq} {lo:cn} {hi:Option cn} {Ll Lr:List bq} {ps:List Nat} {Lt:List bq} {pt:List Nat} {Ld:List bq} {pd:List Nat}
def oE.found (h:oE G key f rest L lo hi Ll Lr ps Lt pt Ld pd){c:dh}(hc:f.n.cells[f.at_]?=some c)(hk:c.key=key):∃w po xi Bp,Dl G c w po/\ff G (f.n.cells.drop (f.at_+1)) xi Bp/\Ld=(key,w)::xi/\pd=po++Bp/\(∀x∈xi,eQ key x.1)/\fE L key=some w:=by
 obtain⟨hl,oO⟩:=aFb.1 hc;have hd:=h.cd;rw[aFk hl,oO]at hd;obtain⟨w,po,xi,Bp,a,b,rfl,rfl⟩:=hd
 have Br:∀x∈xi,eQ key x.1:=λx hx=>by
  obtain⟨c',nL,e⟩:=pq b hx;have:=(vg h.node.ok.sorted hl).2.2 c' nL;rw[oO,hk]at this;rw[<-e];exact this
 refine⟨w,po,xi,Bp,a,b,by rw[hk],rfl,Br,?_⟩;rw[<-h.total];have e:Ll++((Lt++(c.key,w)::xi)++Lr)=(Ll++Lt)++(key,w)::(xi++Lr):=by rw[hk];simp
 rw[e]
 exact Ht λx hx=>by
  rcases aEY.1 hx with hx|hx
  .exact h.kl x hx
  .exact h.kt x hx
def oE.GN (h:oE G key f rest L lo hi Ll Lr ps Lt pt Ld pd)(hn:∀c,f.n.cells[f.at_]?=some c->c.key≠key):(∀x∈Ld,eQ key x.1)/\fE L key=none/\rp L key=L:=by
 have Br:∀x∈Ld,eQ key x.1:=λx hx=>by
  rcases pv.1 (h.kd x hx)with h1|h1
  .exact h1
  .obtain⟨c',nL,e⟩:=pq h.cd hx
   have hl:f.at_<f.n.cells.length:=by
    rcases aGh f.at_ f.n.cells.length with h|h
    .exact h
    .rw[aFu h]at nL;cases nL
   rw[aFk hl]at nL;rcases aEP.1 nL with e2|nL
   .exact absurd (by rw[<-e2,e,h1]) (hn _ (aES hl))
   .have a1:=(vg h.node.ok.sorted hl).2.2 c' nL;rw[e,<-h1]at a1
    have a2:lp key f.n.cells[f.at_].key:=by
     obtain⟨_,_,g3⟩:=rl h.node.ok.sorted key;rw[<-h.at_]at g3;exact g3 _ (by rw[aFk hl];exact aFT)
    exact absurd a1 a2
 have e:L=(Ll++Lt)++(Ld++Lr):=by rw[<-h.total];simp
 have hA:∀x∈Ll++Lt,eQ x.1 key:=λx hx=>by
  rcases aEY.1 hx with hx|hx
  .exact h.kl x hx
  .exact h.kt x hx
 have hB:∀x∈Ld++Lr,eQ key x.1:=λx hx=>by
  rcases aEY.1 hx with hx|hx
  .exact Br x hx
  .exact h.kr x hx
 rw[e];exact⟨Br,RV hA hB,Su hA hB⟩
def dg (l:List dh):bp:=⟨true,l,[]⟩
def CH {G2:GM}(h:oE G key f rest L lo hi Ll Lr ps Lt pt Ld pd)(hG:uY G2)(AG:G2.root=G.root){cm:List dh}{Lm:List bq}{pm:List Nat}{k:Nat}{xi:List bq}{po Bp:List Nat}(hd:ff G (f.n.cells.drop (f.at_+k)) xi Bp)(Xl:pd=po++Bp)
 (hK:∀qs,(∀x∈qs,G.bW x/\x∉po)->Kept G G2 qs) (hcm:ff G2 cm Lm pm) (Vh:∀c∈cm,c.key=key/\c.ok true) (G9:cm.length<=1) (hpm:pm.Nodup) (jg:∀x∈pm,¬(G.bW x/\x∉po)) (Br:∀x∈xi,eQ key x.1):
 za G2 0 f.page rest (dg (f.n.cells.take f.at_++(cm++f.n.cells.drop (f.at_+k)))) (Ll++((Lt++(Lm++xi))++Lr)):=by
 subst Xl;have ja:=h.nd
 have hu:∀x∈pt++(Bp++(f.page::ps)),G.bW x/\x∉po:=λx hx=>by
  have xM:=ja;simp only[aFd,aEY,aGk,aFM]at xM;obtain⟨⟨⟨n1,n2,n3⟩,n4⟩,⟨n5,⟨n6,n7,n8⟩,n9⟩,On,UR⟩:=xM;simp only[aEY,aEP]at hx;rcases hx with hx|hx|rfl|hx
  .exact⟨h.cl.aH x hx,λh=>n9 x hx x (.inl h) rfl⟩
  .exact⟨hd.aH x hx,λh=>n8 x h x hx rfl⟩
  .exact⟨h.node.bW,n2⟩
  .exact⟨h.ctx.aH x hx,λh=>UR x (.inr (.inl h)) x hx rfl⟩
 have iL:∀c∈f.n.cells,c.ok true:=by have:=h.node.ok.cell;rw[h.leaf]at this;exact this
 obtain⟨g1,g2,g3⟩:=rl h.node.ok.sorted key;rw[<-h.at_]at g1 g2 g3
 have agb:∀c∈f.n.cells.drop (f.at_+k),eQ key c.key:=λc hc=>by
  have:c.key∈(f.n.cells.drop (f.at_+k)).map (·.key):=aFX hc;rw[<-hd.keys]at this;obtain⟨x,hx,e⟩:=aFq.1 this;rw[<-e];exact Br x hx
 have Hf:key.length<=48\/cm=[]:=by
  cases cm with
  |nil=>exact .inr rfl
  |cons c cm=>left;obtain⟨a,b⟩:=Vh c uG;rw[<-a];exact b.key
 refine⟨hG,(hK [f.page] (λx hx=>hu x ady) f.page uG).1 h.node.bW,⟨λc hc=>?_,?_,rfl,by simp[dg]⟩,lo,hi,Ll,Lr,_,ps,pt++(pm++Bp),Ctx.kept (G:=G) AG h.ctx (hK ps λx hx=>hu x Yi),⟨rfl,h.lt,?_,λc hc=>?_⟩,?_,rfl⟩
 .rcases aEY.1 hc with hc|hc
  .exact iL c (aFz hc)
  .rcases aEY.1 hc with hc|hc
   .exact(Vh c hc).2
   .exact iL c (aFF hc)
 .show(f.n.cells.take f.at_++(cm++f.n.cells.drop (f.at_+k))).Pairwise _
  have apS:cm.Pairwise λa b=>eQ a.key b.key:=by
   cases cm with
   |nil=>simp
   |cons c cm=>cases cm with
    |nil=>simp
    |cons d cm=>simp at G9
  refine aGP.2 ⟨qH h.node.ok.sorted _,aGP.2 ⟨apS,qI h.node.ok.sorted _,λa ha b hb=>by rw[(Vh a ha).1];exact agb b hb⟩,λa ha b hb=>?_⟩;rcases aEY.1 hb with hb|hb
  .rw[(Vh b hb).1];exact g2 a ha
  .exact jl (g2 a ha) (agb b hb)
 .exact ff.append.2 ⟨Lt,pt,_,_,h.cl.kept (hK pt λx hx=>hu x Yi),ff.append.2 ⟨Lm,pm,xi,Bp,hcm,hd.kept (hK Bp λx hx=>hu x Yi),rfl,rfl⟩,rfl,rfl⟩
 .have hc:c∈f.n.cells.take f.at_++(cm++f.n.cells.drop (f.at_+k)):=hc;rcases aEY.1 hc with hc|hc
  .exact h.E0 c (aFz hc)
  .rcases aEY.1 hc with hc|hc
   .rw[(Vh c hc).1];exact⟨h.klo,h.khi⟩
   .exact h.E0 c (aFF hc)
 .have xM:(f.page::((pt++Bp)++ps)).Nodup:=by
   refine List.Sublist.nodup ?_ ja;refine List.Sublist.cons_cons _ (List.Sublist.append (List.Sublist.append (List.Sublist.refl _) (List.sublist_append_right _ _)) (List.Sublist.refl _))
  have hP:(f.page::((pt++(pm++Bp))++ps)).Perm (pm++(f.page::((pt++Bp)++ps))):=by
   refine(aGC.2 λx=>?_);simp only[aGK,aGY];omega
  refine hP.nodup_iff.2 (aFM.2 ⟨hpm,xM,λa ha b hb e=>jg a ha (hu a ?_)⟩);subst e;simp only[aEP,aEY]at hb⊢;rcases hb with h|(h|h)|h<;>simp[h]
end
end
