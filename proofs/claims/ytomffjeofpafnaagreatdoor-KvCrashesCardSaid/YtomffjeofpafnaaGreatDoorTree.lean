import Derived.Test.YtomffjeofpafnaaGreatDoorPagA
namespace Lim
open Go
noncomputable section
set_option linter.defProp false
abbrev bY:=List UInt8
def dO (a b:bY):Prop:=Op.bytesLess a b=true
instance (a b:bY):Decidable (dO a b):=by unfold dO;infer_instance
def lj (a b:bY):Prop:=¬dO b a
instance (a b:bY):Decidable (lj a b):=by unfold lj;infer_instance
def lY (a b:UInt8)(x y:bY):dO (a::x) (b::y)↔a<b\/(a=b/\dO x y):=by
 unfold dO;simp[Op.bytesLess]
def ij (a:bY):¬dO a []:=by unfold dO;cases a<;>simp[Op.bytesLess]
def EO (a:UInt8)(x:bY):dO [] (a::x):=by unfold dO;simp[Op.bytesLess]
def jf (a:bY):¬dO a a:=by
 induction a with
 |nil=>exact ij _
 |cons a x b=>rw[lY];rintro(h|⟨_,h⟩);exact absurd h (UInt8.lt_irrefl a);exact b h
def iK {a b c:bY}(h:dO a b)(k:dO b c):dO a c:=by
 induction a generalizing b c with
 |nil=>cases c with
  |nil=>exact absurd k (ij _)
  |cons c z=>exact EO _ _
 |cons a x d=>
  cases b with
  |nil=>exact absurd h (ij _)
  |cons b y=>
   cases c with
   |nil=>exact absurd k (ij _)
   |cons c z=>
    rw[lY]at*;rcases h with h|⟨rfl,h⟩<;>rcases k with k|⟨rfl,k⟩
    .exact .inl (UInt8.lt_trans h k)
    .exact .inl h
    .exact .inl k
    .exact .inr ⟨rfl,d h k⟩
def NF (a b:bY):dO a b\/a=b\/dO b a:=by
 induction a generalizing b with
 |nil=>cases b with
  |nil=>exact .inr (.inl rfl)
  |cons b y=>exact .inl (EO _ _)
 |cons a x c=>
  cases b with
  |nil=>exact .inr (.inr (EO _ _))
  |cons b y=>
   rw[lY,lY];rcases aKI a.toNat b.toNat with h|h|h
   .exact .inl (.inl (aJP.2 h))
   .have e:=UInt8.toNat_inj.1 h;subst e;rcases c y with h|rfl|h
    .exact .inl (.inr ⟨rfl,h⟩)
    .exact .inr (.inl rfl)
    .exact .inr (.inr (.inr ⟨rfl,h⟩))
   .exact .inr (.inr (.inl (aJP.2 h)))
def ju {a b:bY}(h:dO a b):¬dO b a:=λk=>jf _ (iK h k)
def AN (a:bY):lj a a:=jf a
def dO.le {a b:bY}(h:dO a b):lj a b:=ju h
def pR {a b:bY}:lj a b↔dO a b\/a=b:=by
 constructor
 .intro h;rcases NF a b with h1|h1|h1;exact .inl h1;exact .inr h1;exact absurd h1 h
 .rintro(h|rfl);exact h.le;exact AN _
def lj.zV {a b c:bY}(h:lj a b)(k:dO b c):dO a c:=by
 rcases pR.1 h with h|rfl;exact iK h k;exact k
def dO.kO {a b c:bY}(h:dO a b)(k:lj b c):dO a c:=by
 rcases pR.1 k with k|rfl;exact iK h k;exact h
def lj.trans {a b c:bY}(h:lj a b)(k:lj b c):lj a c:=by
 rcases pR.1 k with k|rfl;exact(h.zV k).le;exact h
def Dj (a b:bY):lj a b\/dO b a:=by by_cases h:dO b a;exact .inr h;exact .inl h
def LH (a:bY):lj [] a:=ij a
def dO.ne {a b:bY}(h:dO a b):a≠b:=λe=>by subst e;exact jf _ h
def wU {a b:bY}(h:lj a b)(k:lj b a):a=b:=by
 rcases pR.1 h with h|h;exact absurd h k;exact h
def LS (a b:bY):Op.bytesLess a b=decide (dO a b):=by
 by_cases h:dO a b
 .rw[aHQ h];exact h
 .rw[aHL h];simpa[dO]using h
def Qu (a b:bY):(Op.bytesLess a b||(a==b))=decide (lj a b):=by
 rw[LS,aJH];simp[pR]
def abi (a b:bY):(!(Op.bytesLess a b))=decide (lj b a):=by rw[aJH];simp[lj,dO]
def abd (a b:bY):(!(Op.bytesLess a b||(a==b)))=decide (dO b a):=by
 rw[Qu];by_cases h:dO b a<;>simp[lj,h]
@[simp] def P8 (a b:bY)(st:St):sv .lss a b st=.ok (.bool (decide (dO a b))) st:=by rw[<-LS];rfl
@[simp] def P9 (a b:bY)(st:St):sv .leq a b st=.ok (.bool (decide (lj a b))) st:=by rw[<-Qu];rfl
@[simp] def wC (a b:bY)(st:St):sv .geq a b st=.ok (.bool (decide (lj b a))) st:=by rw[<-abi];rfl
@[simp] def GY (a b:bY)(st:St):sv .gtr a b st=.ok (.bool (decide (dO b a))) st:=by rw[<-abd];rfl
@[simp] def mT (a b:bY)(st:St):sv .eql a b st=.ok (.bool (decide (a=b))) st:=by
  have:(a==b)=decide (a=b):=by rw[aJH];simp
  rw[<-this];rfl
@[simp] def oL (a b:bY)(st:St):sv .neq a b st=.ok (.bool (!decide (a=b))) st:=by
  have:(a==b)=decide (a=b):=by rw[aJH];simp
  rw[<-this];rfl
structure dq where
 key:bY
 value:List UInt8
 dR:Nat
 size:Nat
deriving DecidableEq
structure bo where
 leaf:Bool
 cells:List dq
 kids:List Nat
deriving DecidableEq
def iM (leaf:Bool)(c:dq):List UInt8:=
 uv c.key.length++(c.key++(if leaf=true then (if c.dR=0 then uv 0++(uv c.value.length++c.value)else uv c.dR++uv c.size)else []))
def cW (leaf:Bool)(l:List dq):List UInt8:=(l.map (iM leaf)).flatten
def eS (l:List Nat):List UInt8:=(l.map uv).flatten
def mV (n:bo):List UInt8:=uv (if n.leaf=true then 1 else 0)++(uv n.cells.length++(cW n.leaf n.cells++(if n.leaf=true then []else eS n.kids)))
def bo.size (n:bo):Nat:=(mV n).length
abbrev rB:Nat:=2147483647
structure dq.ok (leaf:Bool)(c:dq):Prop where
 key:c.key.length<=48
 inner:leaf=false->c.value=[]/\c.dR=0/\c.size=0
 short:leaf=true->c.dR=0->c.size=0/\c.value.length<=64
 far:leaf=true->c.dR≠0->c.value=[]/\c.dR<=rB/\1<=c.size/\c.size<=rB
def jc (l:List dq):Prop:=l.Pairwise λa b=>dO a.key b.key
structure bo.ok (n:bo):Prop where
 cell:∀c∈n.cells,c.ok n.leaf
 sorted:jc n.cells
 jR:n.kids.length=if n.leaf=true then 0 else n.cells.length+1
 Dl:∀k∈n.kids,k<=rB
def zT (n:Nat):1<=(uv n).length:=by by_cases a:127<n;rw[jb a];simp;rw[jL uM];simp
def eR {n:Nat}(h:n<=127):(uv n).length=1:=by rw[jL h];rfl
def re {n:Nat}(h:n<=16383):(uv n).length<=2:=by
 by_cases a:127<n
 .rw[jb a,aIg,eR uM];omega
 .rw[eR uM];omega
def wh {m n:Nat}(h:m<=n):(uv m).length<=(uv n).length:=by
 induction n using Nat.strongRecOn generalizing m with
 |_ n a=>
  by_cases b:127<m
  .have hn:127<n:=by omega
   rw[jb b,jb hn,aIg,aIg];have:= @a (n/128) uM (m/128) (Nat.div_le_div_right h);omega
  .rw[eR uM];exact zT n
def jv {leaf:Bool}{c:dq}(h:c.ok leaf):1<=(iM leaf c).length/\(iM leaf c).length<=115/\(leaf=false->(iM leaf c).length<=49):=by
 have i:(uv c.key.length).length=1:=eR (by have:=h.key;omega);have h2:=h.key;cases leaf with
 |false=>unfold iM;simp;omega
 |true=>
  unfold iM
  by_cases a:c.dR=0
  .obtain⟨h3,d⟩:=h.short rfl a;have e:(uv c.value.length).length=1:=eR uM;have b:(uv 0).length=1:=eR uM;simp[a];omega
  .obtain⟨h3,d,e,b⟩:=h.far rfl a;have g:=(kF c.dR d).2;have f:=(kF c.size b).2;simp[a];omega
def eC (leaf:Bool)(a b:List dq):cW leaf (a++b)=cW leaf a++cW leaf b:=by simp[cW]
def fy (leaf:Bool)(c:dq)(b:List dq):cW leaf (c::b)=iM leaf c++cW leaf b:=by simp[cW]
def jg (a b:List Nat):eS (a++b)=eS a++eS b:=adJ
def oV (k:Nat)(b:List Nat):eS (k::b)=uv k++eS b:=adJ
def eZ (leaf:Bool)(l:List dq):l.length<=(cW leaf l).length:=by
 induction l with
 |nil=>simp
 |cons c l a=>
  rw[fy,aHR,aIg];have:=zT c.key.length;have:1<=(iM leaf c).length:=by unfold iM;rw[aHR];omega
  omega
def cr (n:bo):n.size=1+((uv n.cells.length).length+((cW n.leaf n.cells).length+(if n.leaf=true then 0 else (eS n.kids).length))):=by
 unfold bo.size mV;have:(uv (if n.leaf=true then 1 else 0)).length=1:=eR acs;rw[aHR,aHR,aHR,this]
 split<;>simp
def bo.find (n:bo)(a:bY):Nat:=n.cells.findIdx λc=>decide (lj a c.key)
def cN (n:bo)(i:Nat):bo×bY×bo:=
 if n.leaf=true then (⟨true,n.cells.take i,[]⟩,(n.cells[i]?.map (·.key)).getD [],⟨true,n.cells.drop i,[]⟩)
 else (⟨false,n.cells.take i,n.kids.take (i+1)⟩,(n.cells[i]?.map (·.key)).getD [],⟨false,n.cells.drop (i+1),n.kids.drop (i+1)⟩)
def hU (n:bo)(i:Nat):Nat:=((cN n i).1.size-(cN n i).2.2.size)+((cN n i).2.2.size-(cN n i).1.size)
def tE (n:bo):Nat->Nat->Nat->Nat
 |0,_,b=>b
 |f+1,i,b=>tE n f (i+1) (if hU n i<hU n b then i else b)
def cJ (n:bo):Nat:=if n.leaf=true then 1 else 0
def iB (n:bo):Nat:=tE n (n.cells.length-(cJ n+1)) (cJ n+1) (cJ n)
def yw (n:bo):bo×bY×bo:=cN n (iB n)
def fO (k:bY):dq:=⟨k,[],0,0⟩
def dx (a:bo)(c:bY)(b:bo):bo:=if a.leaf=true then ⟨true,a.cells++b.cells,[]⟩else ⟨false,a.cells++(fO c::b.cells),a.kids++b.kids⟩
def KS (n:bo)(f:Nat):∀(i b:Nat),b<i->(tE n f i b=b\/(i<=tE n f i b/\tE n f i b<i+f))/\hU n (tE n f i b)<=hU n b/\∀j,i<=j->j<i+f->hU n (tE n f i b)<=hU n j:=by
 induction f with
 |zero=>intro i b m;exact⟨.inl rfl,aHK _,λj e a=>uM⟩
 |succ f l=>
  intro i b m;simp only[tE];obtain⟨e,a,k⟩:=l (i+1) (if hU n i<hU n b then i else b) acs;generalize p:tE n f (i+1) (if hU n i<hU n b then i else b)=r at*
  by_cases g:hU n i<hU n b
  .rw[aHP g]at e a;refine⟨.inr uM,uM,λj d o=>?_⟩;rcases aKh d with rfl|c
   .exact a
   .exact k j c uM
  .rw[aHM g]at e a;refine⟨uM,a,λj d o=>?_⟩;rcases aKh d with rfl|c
   .omega
   .exact k j c uM
def zc (n:bo)(h:cJ n<n.cells.length):cJ n<=iB n/\iB n<n.cells.length/\∀j,cJ n<=j->j<n.cells.length->hU n (iB n)<=hU n j:=by
 obtain⟨f,d,c⟩:=KS n (n.cells.length-(cJ n+1)) (cJ n+1) (cJ n) (aKx _);unfold iB;refine⟨uM,uM,λj b e=>?_⟩;rcases aKh b with rfl|a
 .exact d
 .exact c j a uM
section
variable {l:List dq}{α:Type}{n:bo}
def ow {leaf:Bool}(h:∀c∈l,c.ok leaf):(cW leaf l).length<=l.length*115:=by
 induction l with
 |nil=>simp[cW]
 |cons c l a=>
  rw[fy,aHR,aIg];have:=(jv (h c wb)).2.1;have:=a λc b=>h c (by simp[b]);omega
def qN {l:List Nat}(h:∀k∈l,k<=rB):(eS l).length<=l.length*5:=by
 induction l with
 |nil=>simp[eS]
 |cons k l a=>
  rw[oV,aHR,aIg];have:=(kF k (h k wb)).2;have:=a λc b=>h c (by simp[b]);omega
def zW (l:List α)(i:Nat)(h:i<l.length):l.take (i+1)=l.take i++[l[i]]:=aIa h
def xg (l:List α)(i:Nat)(h:i<l.length):l.drop i=l[i]::l.drop (i+1):=aIe h
structure IY (n:bo):Prop where
 up:∀i,cJ n<=i->i+1<n.cells.length->(cN n (i+1)).1.size<=(cN n i).1.size+116
 down:∀i,cJ n<=i->i+1<n.cells.length->(cN n i).2.2.size<=(cN n (i+1)).2.2.size+116
 sum:∀i,cJ n<=i->i<n.cells.length->n.size<=(cN n i).1.size+(cN n i).2.2.size+49/\(cN n i).1.size+(cN n i).2.2.size<=n.size+4
 head:cJ n<n.cells.length->(cN n (cJ n)).1.size<=if n.leaf=true then 117 else 7
 last:∀i,cJ n<=i->i+1=n.cells.length->(cN n i).2.2.size<=if n.leaf=true then 117 else 7
def Ss (h:n.ok)(u:n.cells.length<=16000):IY n:=by
 obtain⟨leaf,cells,a⟩:=n;have hc:=h.cell;have s:=h.jR;have p:=h.Dl;simp only at hc s p u;have d:∀i,i<=16383->1<=(uv i).length/\(uv i).length<=2:=λi hi=>⟨zT i,re hi⟩;cases leaf with
 |true=>
  have j:∀i,(cN ⟨true,cells,a⟩ i).1=⟨true,cells.take i,[]⟩:=λi=>rfl;have g:∀i,(cN ⟨true,cells,a⟩ i).2.2=⟨true,cells.drop i,[]⟩:=λi=>rfl;have o:cJ ⟨true,cells,a⟩=1:=rfl
  have r:∀i,(cW true (cells.take i)).length+(cW true (cells.drop i)).length=(cW true cells).length:=λi=>by
   rw[<-aHR,<-eC,aIA]
  refine⟨λi f b=>?_,λi f b=>?_,λi f b=>?_,λf=>?_,λi f b=>?_⟩
  .simp only at b;rw[j,j,cr,cr];simp only[aIj,aHZ];rw[zW cells i uM,eC,aHR];have e:=(jv (hc _ (aIc (show i<cells.length from uM)))).2.1;have w:(cW true [cells[i]' uM]).length=(iM true (cells[i]' uM)).length:=by simp[cW]
   have:=d (min (i+1) cells.length) uM;have:=d (min i cells.length) uM;omega
  .simp only at b;rw[g,g,cr,cr];simp only[aIj,aIl];rw[xg cells i uM,fy,aHR];have e:=(jv (hc _ (aIc (show i<cells.length from uM)))).2.1;have:=d (cells.length-(i+1)) uM;have:=d (cells.length-i) uM;omega
  .simp only at b;rw[j,g,cr,cr,cr];simp only[aIj,aIl,aHZ];have:=r i;have:=d (min i cells.length) uM;have:=d (cells.length-i) uM;have:=d cells.length uM;omega
  .simp only[o]at f;rw[o,j,cr];simp only[aIj,aHZ];have k:(cells.take 1).length=1:=by rw[aHZ];omega
   have e:=ow (leaf:=true) (l:=cells.take 1) λc h=>hc c (aIw h);rw[k]at e;have:(uv (min 1 cells.length)).length=1:=eR uM;omega
  .simp only[o]at f;simp only at b;rw[g,cr];simp only[aIj,aIl];have k:(cells.drop i).length=1:=by rw[aIl];omega
   have e:=ow (leaf:=true) (l:=cells.drop i) λc h=>hc c (aID h);rw[k]at e;have:(uv (cells.length-i)).length=1:=eR uM;omega
 |false=>
  simp only[aHH,aHV]at s;have j:∀i,(cN ⟨false,cells,a⟩ i).1=⟨false,cells.take i,a.take (i+1)⟩:=λi=>rfl;have g:∀i,(cN ⟨false,cells,a⟩ i).2.2=⟨false,cells.drop (i+1),a.drop (i+1)⟩:=λi=>rfl;have o:cJ ⟨false,cells,a⟩=0:=rfl
  have r:∀i (h:i<cells.length),(cW false (cells.take i)).length+((iM false cells[i]).length+(cW false (cells.drop (i+1))).length)=(cW false cells).length:=λi h=>by
   rw[<-aHR,<-fy,<-xg cells i h,<-aHR,<-eC,aIA]
  have q:∀i,(eS (a.take i)).length+(eS (a.drop i)).length=(eS a).length:=λi=>by
   rw[<-aHR,<-jg,aIA]
  have m:∀i (h:i<cells.length),1<=(iM false cells[i]).length/\(iM false cells[i]).length<=49:=λi h=>by
   have:=jv (hc _ (aIc h));exact⟨this.1,this.2.2 rfl⟩
  refine⟨λi f b=>?_,λi f b=>?_,λi f b=>?_,λf=>?_,λi f b=>?_⟩
  .simp only at b;rw[j,j,cr,cr];simp only[aHH,aHV,aHZ];rw[zW cells i uM,eC,aHR,zW a (i+1) uM,jg,aHR];have e:=m i uM;have w:(cW false [cells[i]' uM]).length=(iM false (cells[i]' uM)).length:=by simp[cW]
   have x:(eS [a[i+1]' uM]).length=(uv (a[i+1]' uM)).length:=adJ
   have v:=(kF _ (p _ (aIc (show i+1<a.length from uM)))).2;have:=d (min (i+1) cells.length) uM;have:=d (min i cells.length) uM;omega
  .simp only at b;rw[g,g,cr,cr];simp only[aHH,aHV,aIl];rw[xg cells (i+1) uM,fy,aHR,xg a (i+1) uM,oV,aHR];have e:=m (i+1) uM;have v:=(kF _ (p _ (aIc (show i+1<a.length from uM)))).2;have:=d (cells.length-(i+1+1)) uM;have:=d (cells.length-(i+1)) uM;omega
  .simp only at b;rw[j,g,cr,cr,cr];simp only[aHH,aHV,aIl,aHZ];have:=r i b;have:=q (i+1);have:=m i b;have:=d (min i cells.length) uM;have:=d (cells.length-(i+1)) uM;have:=d cells.length uM;omega
  .rw[o,j,cr];simp only[aHH,aHV,aHZ];have e:=qN (l:=a.take (0+1)) λc h=>p c (aIw h);have k:(a.take (0+1)).length=1:=by rw[aHZ];omega
   rw[k]at e;have:(uv 0).length=1:=eR uM;simp only[aHN]at e;simp[cW];omega
  .simp only at b;rw[g,cr];simp only[aHH,aHV,aIl];have e:=qN (l:=a.drop (i+1)) λc h=>p c (aID h);have k:(a.drop (i+1)).length=1:=by rw[aIl];omega
   rw[k]at e;have:(uv (cells.length-(i+1))).length=1:=eR uM;have:cells.drop (i+1)=[]:=aIp uM;rw[this];simp[cW];omega
def Sr (h:IY n)(c:cJ n<n.cells.length)(f:513<=n.size):∃j,cJ n<=j/\j<n.cells.length/\hU n j<=232:=by
 have a:∀k,cJ n+k<n.cells.length->(cN n (cJ n+k)).1.size<=(cN n (cJ n+k)).2.2.size\/∃j,cJ n<=j/\j<n.cells.length/\hU n j<=232:=by
  intro k
  induction k with
  |zero=>
   intro b;have:=h.head c;have:(if n.leaf=true then 117 else 7)<=117:=acs
   have:=(h.sum (cJ n) (aHK _) c).1;left;simp only[aIv];omega
  |succ k d=>
   intro b;rcases d (by omega)with h2|h2
   .by_cases h3:(cN n (cJ n+(k+1))).1.size<=(cN n (cJ n+(k+1))).2.2.size
    .exact .inl h3
    .right;refine⟨cJ n+(k+1),uM,b,?_⟩;have i:=h.up (cJ n+k) uM uM;have g:=h.down (cJ n+k) uM uM;have e:cJ n+(k+1)=cJ n+k+1:=by omega
     rw[e]at h3⊢;unfold hU;omega
   .exact .inr h2
 rcases a (n.cells.length-1-cJ n) (by omega)with h2|h2
 .have e:cJ n+(n.cells.length-1-cJ n)=n.cells.length-1:=by omega
  rw[e]at h2;have:=h.last (n.cells.length-1) uM uM;have:(if n.leaf=true then 117 else 7)<=117:=acs
  have:=(h.sum (n.cells.length-1) uM uM).1;omega
 .exact h2
def rh (h:jc l)(i:Nat):jc (l.take i):=h.sublist (List.take_sublist _ _)
def ri (h:jc l)(i:Nat):jc (l.drop i):=h.sublist (List.drop_sublist _ _)
structure BE (n a b:bo)(i:Nat)(s:bY):Prop where
 lt:i<n.cells.length
 Nu:a.ok
 okB:b.ok
 szA:a.size<=512
 szB:b.size<=512
 neA:a.cells≠[]
 neB:b.cells≠[]
 key:s=(n.cells[i]'lt).key
 eqs:(n.leaf=true/\a=⟨true,n.cells.take i,[]⟩/\b=⟨true,n.cells.drop i,[]⟩)\/(n.leaf=false/\a=⟨false,n.cells.take i,n.kids.take (i+1)⟩/\b=⟨false,n.cells.drop (i+1),n.kids.drop (i+1)⟩)
def Sq (h:n.ok)(g:512<n.size)(D:n.size<=760):∃i,i=iB n/\BE n (yw n).1 (yw n).2.2 i (yw n).2.1:=by
 have u:n.cells.length<=760:=by
  have:=eZ n.leaf n.cells;rw[cr]at D;omega
 have m:=Ss h uM
 have s:cJ n<n.cells.length:=by
  have w:=ow (leaf:=n.leaf) (l:=n.cells) h.cell;have G:=qN (l:=n.kids) h.Dl;have v:=h.jR;have:(uv n.cells.length).length<=2:=re uM;rw[cr]at g;unfold cJ;cases hl:n.leaf with
  |true=>rw[hl]at g w;simp only[aIj]at g⊢;omega
  |false=>rw[hl]at g w v;simp only[aHH,aHV]at g v⊢;omega
 obtain⟨o,f,E⟩:=zc n s;obtain⟨j,A,z,y⟩:=Sr m s uM;have C:=E j A z;obtain⟨x,s2⟩:=m.sum (iB n) o f;have B:(cN n (iB n)).1.size<=(cN n (iB n)).2.2.size+232/\(cN n (iB n)).2.2.size<=(cN n (iB n)).1.size+232:=by unfold hU at C y;omega
 have p:cJ n<iB n\/n.leaf=true:=by
  rcases aKh o with e|e
  .have:=m.head s;rw[<-e]at B x s2;cases hl:n.leaf with
   |true=>exact .inr rfl
   |false=>rw[hl,aHM xI]at this;omega
  .exact .inl e
 have q:iB n+1<n.cells.length\/n.leaf=true:=by
  rcases aKh (show iB n+1<=n.cells.length from f)with e|e
  .have:=m.last (iB n) o e;cases hl:n.leaf with
   |true=>exact .inr rfl
   |false=>rw[hl,aHM xI]at this;omega
  .exact .inl e
 refine⟨iB n,rfl,?_⟩;unfold yw;generalize iB n=i at*;obtain⟨leaf,cells,a⟩:=n;cases leaf with
 |true=>
  have r:1<=i:=o;simp only at f;refine⟨f,⟨λc d=>h.cell c (aIw d),rh h.sorted _,rfl,λk b=>by simp[cN]at b⟩,⟨λc d=>h.cell c (aID d),ri h.sorted _,rfl,λk b=>by simp[cN]at b⟩,uM,uM,?_,?_,?_,.inl ⟨rfl,rfl,rfl⟩⟩
  .intro e;have:=congrArg List.length e;simp only[cN,aIj,aHZ,aJB]at this;omega
  .intro e;have:=congrArg List.length e;simp only[cN,aIj,aIl,aJB]at this;omega
  .simp[cN,aHO f]
 |false=>
  have r:cJ ⟨false,cells,a⟩<i:=by rcases p with h|h;exact h;cases h
  have r:0<i:=r;have F:i+1<cells.length:=by rcases q with h|h;exact h;cases h
  have b:a.length=cells.length+1:=h.jR;refine⟨f,⟨λc d=>h.cell c (aIw d),rh h.sorted _,?_,λk b=>h.Dl k (aIw b)⟩,⟨λc d=>h.cell c (aID d),ri h.sorted _,?_,λk b=>h.Dl k (aID b)⟩,uM,uM,?_,?_,?_,.inr ⟨rfl,rfl,rfl⟩⟩
  .simp[cN];omega
  .simp[cN];omega
  .intro e;have:=congrArg List.length e;simp only[cN,aHH,aHV,aHZ,aJB]at this;omega
  .intro e;have:=congrArg List.length e;simp only[cN,aHH,aHV,aIl,aJB]at this;omega
  .simp[cN,aHO f]
end
section
variable {ks:List Nat}{ss:List bY}{ps:List Nat}{k:Nat}{s:bY}{k1 k2:List Nat}{s1 s2:List bY}{ld:bY}
inductive PC where
 |node (n:bo)
 |dR (next:Nat) (data:List UInt8)
 |blank
def zY (l:List Nat)(n:Nat):(fX l n).length<=l.length+1:=by
 induction l with
 |nil=>simp[fX]
 |cons p r a=>simp only[fX];split<;>simp only[aIg]<;>omega
def Jp (l:List Nat)(n:Nat):fX (fX l n) n=fX l n:=by
 induction l with
 |nil=>simp[fX]
 |cons p r a=>
  simp only[fX]
  split
  .rename_i h;simp only[fX,aHP h]
  .rename_i h;simp only[fX,aHM h,a]
structure GM where
 aE:Nat
 used:Nat
 root:Nat
 fr:List Nat
 cont:Nat->PC
 ef:List Nat
def GM.bW (G:GM)(n:Nat):Prop:=0<n/\n<G.used/\n∉G.fr
structure uK (G:GM):Prop where
 one:1<=G.used
 ik:G.used<=G.aE
 size:G.aE<=65536
 nd:G.fr.Nodup
 fr:∀n∈G.fr,0<n/\n<G.used
def GM.cD (G:GM):Nat:=G.aE-G.used+G.fr.length
def GM.put (G:GM)(n:Nat)(x:PC):GM:={G with cont:=λq=>if q=n then x else G.cont q,ef:=fX G.ef n}
def GM.dA (G:GM):Nat:=match G.fr with|[]=>G.used|n::_=>n
def GM.alloc (G:GM):GM:=match G.fr with
 |[]=>{G with used:=G.used+1,cont:=λq=>if q=G.used then .blank else G.cont q,ef:=fX G.ef G.used}
 |n::r=>{G with fr:=r,cont:=λq=>if q=n then .blank else G.cont q,ef:=fX G.ef n}
def GM.drop (G:GM)(n:Nat):GM:={G with fr:=n::G.fr,ef:=fX G.ef n}
def GM.reset (G:GM):GM:={G with ef:=[]}
def GM.fD (G:GM)(n:Nat):GM:={G with root:=n}
def Ap (G:GM)(n:Nat)(x:PC)(q:Nat):(G.put n x).cont q=if q=n then x else G.cont q:=rfl
def OF (G:GM):G.alloc.ef=fX G.ef G.dA:=by unfold GM.alloc GM.dA;split<;>rfl
def tQ (G:GM)(n:Nat)(x:PC):(G.put n x).ef.length<=G.ef.length+1:=zY _ _
def xh (G:GM)(n:Nat):(G.drop n).ef.length<=G.ef.length+1:=zY _ _
def MO (G:GM)(x:PC):(G.alloc.put G.dA x).ef.length<=G.ef.length+1:=by
 show(fX G.alloc.ef G.dA).length<=_;rw[OF,Jp];exact zY _ _
def mS (G:GM)(n:Nat)(x:PC):(G.put n x).cont n=x:=by simp[Ap]
def JJ (G:GM)(n:Nat)(x:PC)(q:Nat)(h:q≠n):(G.put n x).cont q=G.cont q:=by simp[Ap,h]
@[simp] def sP (G:GM)(n:Nat)(x:PC):(G.put n x).cD=G.cD:=rfl
def uK.put {G:GM}(h:uK G)(n:Nat)(x:PC):uK (G.put n x):=⟨h.one,h.ik,h.size,h.nd,h.fr⟩
def uK.fD {G:GM}(h:uK G)(n:Nat):uK (G.fD n):=⟨h.one,h.ik,h.size,h.nd,h.fr⟩
structure MR (G:GM):Prop where
 ok:uK G.alloc
 not:¬G.bW G.dA
 bW:∀q,G.alloc.bW q↔G.bW q\/q=G.dA
 cont:∀q,q≠G.dA->G.alloc.cont q=G.cont q
 root:G.alloc.root=G.root
 free:G.alloc.cD+1=G.cD
 aE:G.alloc.aE=G.aE
 pos:0<G.dA
def uq {G:GM}(h:uK G)(j:0<G.cD):MR G:=by
 cases d:G.fr with
 |nil=>
  have e:G.alloc={G with used:=G.used+1,cont:=λq=>if q=G.used then .blank else G.cont q,ef:=fX G.ef G.used}:=by unfold GM.alloc;rw[d]
  have f:G.dA=G.used:=by unfold GM.dA;rw[d]
  have h1:=h.one;unfold GM.cD at j;rw[d]at j;simp at j;refine⟨?_,?_,?_,?_,?_,?_,?_,?_⟩
  .rw[e];exact⟨wb,by show G.used+1<=G.aE;omega,h.size,h.nd,λn hn=>by have:=h.fr n hn;show _/\n<G.used+1;omega⟩
  .rw[f];intro⟨_,l,_⟩;omega
  .intro q;rw[e,f];unfold GM.bW;simp only[d];simp;omega
  .intro q g;rw[e];rw[f]at g;simp[g]
  .rw[e]
  .rw[e];unfold GM.cD;simp[d];omega
  .rw[e]
  .rw[f];omega
 |cons n r=>
  have e:G.alloc={G with fr:=r,cont:=λq=>if q=n then .blank else G.cont q,ef:=fX G.ef n}:=by unfold GM.alloc;rw[d]
  have f:G.dA=n:=by unfold GM.dA;rw[d]
  have i:=h.nd;rw[d,aHX]at i;have hn:=h.fr n (by rw[d];simp);refine⟨?_,?_,?_,?_,?_,?_,?_,?_⟩
  .rw[e];exact⟨h.one,h.ik,h.size,i.2,λm o=>h.fr m (by rw[d];simp[show m∈r from o])⟩
  .rw[f];intro⟨_,_,l⟩;rw[d]at l;simp at l
  .intro q;rw[e,f];unfold GM.bW;simp only[d,aHJ,aJf];constructor
   .rintro⟨a,b,c⟩
    by_cases g:q=n
    .exact .inr g
    .exact .inl ⟨a,b,g,c⟩
   .rintro(⟨a,b,_,c⟩|rfl)
    .exact⟨a,b,c⟩
    .exact⟨hn.1,hn.2,i.1⟩
  .intro q g;rw[e];rw[f]at g;simp[g]
  .rw[e]
  .rw[e];unfold GM.cD;simp[d];omega
  .rw[e]
  .rw[f];exact hn.1
structure Wq (G:GM)(n:Nat):Prop where
 ok:uK (G.drop n)
 bW:∀q,(G.drop n).bW q↔G.bW q/\q≠n
 free:(G.drop n).cD=G.cD+1
def rO {G:GM}(h:uK G){n:Nat}(f:G.bW n):Wq G n:=by
 refine⟨⟨h.one,h.ik,h.size,?_,?_⟩,?_,?_⟩
 .exact aHX.2 ⟨f.2.2,h.nd⟩
 .intro q e;rcases aHJ.1 e with rfl|e
  .exact⟨f.1,f.2.1⟩
  .exact h.fr q e
 .intro q;show(0<q/\q<G.used/\q∉n::G.fr)↔_;unfold GM.bW;simp only[aHJ,aJf];constructor
  .rintro⟨a,b,c,d⟩;exact⟨⟨a,b,d⟩,c⟩
  .rintro⟨⟨a,b,d⟩,c⟩;exact⟨a,b,c,d⟩
 .show G.aE-G.used+(n::G.fr).length=_;unfold GM.cD;simp;omega
abbrev aW:=bY×List UInt8
def qb (G:GM):List Nat->Nat->List UInt8->Prop
 |[],page,v=>page=0/\v=[]
 |p::ps,page,v=>page=p/\v≠[]/\G.bW p/\∃next,G.cont p=.dR next (v.take 480)/\next<=rB/\qb G ps next (v.drop 480)
def Bx (G:GM)(c:dq)(v:List UInt8)(ps:List Nat):Prop:=
 (c.dR=0/\v=c.value/\ps=[])\/(c.dR≠0/\c.size=v.length/\64<v.length/\v.length<=8192/\qb G ps c.dR v)
def fx (G:GM):List dq->List aW->List Nat->Prop
 |[],L,ps=>L=[]/\ps=[]
 |c::cs,L,ps=>∃v b d a,Bx G c v b/\fx G cs d a/\L=(c.key,v)::d/\ps=b++a
abbrev tG:=Nat->bY->Option bY->List aW->List Nat->Prop
def cq (S:tG):List Nat->List bY->bY->Option bY->List aW->List Nat->Prop
 |[k],[],lo,hi,L,ps=>S k lo hi L ps
 |k::ks,s::ss,lo,hi,L,ps=>∃d b c a,S k lo (some s) d b/\cq S ks ss s hi c a/\L=d++c/\ps=b++a
 |_,_,_,_,_,_=>False
def ET (k:bY)(hi:Option bY):Prop:=match hi with|none=>True|some h=>dO k h
def bo.fe (n:bo):List bY:=n.cells.map (·.key)
def Ho (G:GM)(n:bo)(lo:bY)(hi:Option bY)(L:List aW)(ps:List Nat):Prop:=n.leaf=true/\ET lo hi/\fx G n.cells L ps/\∀c∈n.cells,lj lo c.key/\ET c.key hi
def QM (S:tG)(n:bo)(lo:bY)(hi:Option bY)(L:List aW)(ps:List Nat):Prop:=n.leaf=false/\cq S n.kids n.fe lo hi L ps
structure nP (G:GM)(page:Nat)(n:bo):Prop where
 bW:G.bW page
 cont:G.cont page=.node n
 ok:n.ok
 size:n.size<=512
 full:n.leaf=true\/n.cells≠[]
def AtP (G:GM)(C:bo->bY->Option bY->List aW->List Nat->Prop):tG:=λpage lo hi L ps=>∃n q,nP G page n/\C n lo hi L q/\ps=page::q
def we (G:GM):Nat->bo->bY->Option bY->List aW->List Nat->Prop
 |0=>Ho G
 |h+1=>QM (AtP G (we G h))
def Sub (G:GM)(h:Nat):tG:=AtP G (we G h)
def qK {a b:bY}{hi:Option bY}(h:dO a b)(k:ET b hi):ET a hi:=by cases hi with|none=>trivial|some c=>exact iK h k
section
variable {S S':tG}
def cq.mono {lo:bY}{hi:Option bY}{L:List aW}(h:cq S ks ss lo hi L ps)(i:∀k lo hi L q,(∀x∈q,x∈ps)->S k lo hi L q->S' k lo hi L q):cq S' ks ss lo hi L ps:=by
 induction ks generalizing ss lo L ps with
 |nil=>cases ss<;>exact h.elim
 |cons k ks j=>
  cases ss with
  |nil=>cases ks with
   |nil=>exact i _ _ _ _ _ (λx hx=>hx) h
   |cons k2 ks=>exact h.elim
  |cons s ss=>
   obtain⟨g,c,e,p2,m,l,rfl,rfl⟩:∃g c e p2,S k lo (some s) g c/\cq S ks ss s hi e p2/\L=g++e/\ps=c++p2:=by cases ks<;>exact h
   have:∃f b d a,S' k lo (some s) f b/\cq S' ks ss s hi d a/\g++e=f++d/\c++p2=b++a:=
    ⟨g,c,e,p2,i _ _ _ _ _ (λx hx=>aba) m,j l λk lo hi L q hq=>i k lo hi L q λx hx=>aaY,rfl,rfl⟩
   cases ks<;>exact this
def cq.cons {lo:bY}{hi:Option bY}{L:List aW}:cq S (k::ks) (s::ss) lo hi L ps↔∃c a b p2,S k lo (some s) c a/\cq S ks ss s hi b p2/\L=c++b/\ps=a++p2:=by cases ks<;>exact Iff.rfl
def cq.one {lo:bY}{hi:Option bY}{L:List aW}:cq S (k::ks) [] lo hi L ps↔ks=[]/\S k lo hi L ps:=by
 cases ks with
 |nil=>simp[cq]
 |cons k2 ks=>simp[cq]
def cq.len {lo:bY}{hi:Option bY}{L:List aW}(h:cq S ks ss lo hi L ps):ks.length=ss.length+1:=by
 induction ks generalizing ss lo L ps with
 |nil=>cases ss<;>exact h.elim
 |cons k ks a=>
  cases ss with
  |nil=>rw[cq.one]at h;rw[h.1];rfl
  |cons s ss=>rw[cq.cons]at h;obtain⟨_,_,_,_,_,b,_,_⟩:=h;simp[a b]
def BD (S:tG):List Nat->List bY->bY->bY->List aW->List Nat->Prop
 |[],[],lo,ld,L,ps=>lo=ld/\L=[]/\ps=[]
 |k::ks,s::ss,lo,ld,L,ps=>∃d b c a,S k lo (some s) d b/\BD S ks ss s ld c a/\L=d++c/\ps=b++a
 |_,_,_,_,_,_=>False
def O2 (S:tG):List Nat->List bY->Option bY->Option bY->List aW->List Nat->Prop
 |[],[],ld,hi,L,ps=>ld=hi/\L=[]/\ps=[]
 |k::ks,s::ss,ld,hi,L,ps=>ld=some s/\cq S (k::ks) ss s hi L ps
 |_,_,_,_,_,_=>False
def cq.split {lo:bY}{hi:Option bY}{L:List aW}(he:k1.length=s1.length):cq S (k1++k2) (s1++s2) lo hi L ps↔∃ld b a g p2,BD S k1 s1 lo ld b a/\cq S k2 s2 ld hi g p2/\L=b++g/\ps=a++p2:=by
 induction k1 generalizing s1 lo L ps with
 |nil=>
  cases s1 with
  |nil=>
   constructor
   .intro h;exact⟨lo,[],[],L,ps,⟨rfl,rfl,rfl⟩,h,rfl,rfl⟩
   .rintro⟨ld,b,a,g,p2,⟨rfl,rfl,rfl⟩,h,rfl,rfl⟩;exact h
  |cons s s1=>cases he
 |cons k k1 l=>
  cases s1 with
  |nil=>cases he
  |cons s s1=>
   have m:k1.length=s1.length:=acn
   rw[aIL,aIL,cq.cons];constructor
   .rintro⟨b,a,g,p2,h1,h2,rfl,rfl⟩;obtain⟨ld,d,c,f,e,j,i,rfl,rfl⟩:=(l m).1 h2;exact⟨ld,b++d,a++c,f,e,⟨b,a,d,c,h1,j,rfl,rfl⟩,i,wb,wb⟩
   .rintro⟨ld,_,_,f,e,⟨b,a,d,c,h1,j,rfl,rfl⟩,i,rfl,rfl⟩;exact⟨b,a,d++f,c++e,h1,(l m).2 ⟨ld,d,c,f,e,j,i,rfl,rfl⟩,wb,wb⟩
def cq.focus {lo:bY}{hi:Option bY}{L:List aW}:cq S (k::k2) s2 lo hi L ps↔∃ld c a b p2,S k lo ld c a/\O2 S k2 s2 ld hi b p2/\L=c++b/\ps=a++p2:=by
 cases s2 with
 |nil=>
  rw[cq.one];constructor
  .rintro⟨rfl,h⟩;exact⟨hi,L,ps,[],[],h,⟨rfl,rfl,rfl⟩,wb,wb⟩
  .rintro⟨ld,c,a,b,p2,h1,h2,rfl,rfl⟩;cases k2 with
   |nil=>obtain⟨rfl,rfl,rfl⟩:=h2;exact⟨rfl,aal⟩
   |cons k3 k2=>exact h2.elim
 |cons s s2=>
  rw[cq.cons];constructor
  .rintro⟨c,a,b,p2,h1,h2,rfl,rfl⟩;cases k2 with
   |nil=>exact absurd h2.len wb
   |cons k3 k2=>exact⟨some s,c,a,b,p2,h1,⟨rfl,h2⟩,rfl,rfl⟩
  .rintro⟨ld,c,a,b,p2,h1,h2,rfl,rfl⟩;cases k2 with
   |nil=>exact h2.elim
   |cons k3 k2=>obtain⟨rfl,d⟩:=h2;exact⟨c,a,b,p2,h1,d,rfl,rfl⟩
def BD.snoc {lo:bY}{L:List aW}:BD S ks (ss++[s]) lo ld L ps↔ld=s/\cq S ks ss lo (some s) L ps:=by
 induction ks generalizing ss lo L ps with
 |nil=>
  constructor
  .intro h;cases ss<;>exact h.elim
  .rintro⟨_,h⟩;cases ss<;>exact h.elim
 |cons k ks a=>
  cases ss with
  |nil=>
   rw[cq.one];constructor
   .rintro⟨L1,p1,L2,p2,h1,h2,rfl,rfl⟩;cases ks with
    |nil=>obtain⟨rfl,rfl,rfl⟩:=h2;exact⟨rfl,rfl,aal⟩
    |cons k2 ks=>exact h2.elim
   .rintro⟨rfl,rfl,h⟩;exact⟨L,ps,[],[],h,⟨rfl,rfl,rfl⟩,wb,wb⟩
  |cons s2 ss=>
   rw[aIL,cq.cons];constructor
   .rintro⟨L1,p1,L2,p2,h1,h2,rfl,rfl⟩;obtain⟨rfl,b⟩:=a.1 h2;exact⟨rfl,L1,p1,L2,p2,h1,b,rfl,rfl⟩
   .rintro⟨rfl,L1,p1,L2,p2,h1,h2,rfl,rfl⟩;exact⟨L1,p1,L2,p2,h1,a.2 ⟨rfl,h2⟩,rfl,rfl⟩
def BD.mono {lo:bY}{L:List aW}(h:BD S ks ss lo ld L ps)(a:∀k lo hi L q,(∀x∈q,x∈ps)->S k lo hi L q->S' k lo hi L q):BD S' ks ss lo ld L ps:=by
 induction ks generalizing ss lo L ps with
 |nil=>cases ss<;>exact h
 |cons k ks d=>
  cases ss with
  |nil=>exact h
  |cons s ss=>
   obtain⟨i,c,g,b,f,e,rfl,rfl⟩:=h;exact⟨i,c,g,b,a _ _ _ _ _ (λx hx=>aba) f,d e λk lo hi L q hq=>a k lo hi L q λx hx=>aaY,rfl,rfl⟩
def O2.mono {ld hi:Option bY}{L:List aW}(h:O2 S ks ss ld hi L ps)(a:∀k lo hi L q,(∀x∈q,x∈ps)->S k lo hi L q->S' k lo hi L q):O2 S' ks ss ld hi L ps:=by
 cases ks with
 |nil=>cases ss<;>exact h
 |cons k ks=>
  cases ss with
  |nil=>exact h
  |cons s ss=>exact⟨h.1,h.2.mono a⟩
def BD.len {lo:bY}{L:List aW}(h:BD S ks ss lo ld L ps):ks.length=ss.length:=by
 induction ks generalizing ss lo L ps with
 |nil=>cases ss with|nil=>rfl|cons s ss=>exact h.elim
 |cons k ks a=>
  cases ss with
  |nil=>exact h.elim
  |cons s ss=>obtain⟨g,d,f,c,e,b,rfl,rfl⟩:=h;simp[a b]
def BD.append {lo:bY}{L:List aW}(he:k1.length=s1.length):BD S (k1++k2) (s1++s2) lo ld L ps↔∃m b a g p2,BD S k1 s1 lo m b a/\BD S k2 s2 m ld g p2/\L=b++g/\ps=a++p2:=by
 induction k1 generalizing s1 lo L ps with
 |nil=>
  cases s1 with
  |nil=>
   constructor
   .intro h;exact⟨lo,[],[],L,ps,⟨rfl,rfl,rfl⟩,h,rfl,rfl⟩
   .rintro⟨m,b,a,g,p2,⟨rfl,rfl,rfl⟩,h,rfl,rfl⟩;exact h
  |cons s s1=>cases he
 |cons k k1 l=>
  cases s1 with
  |nil=>cases he
  |cons s s1=>
   have n:k1.length=s1.length:=acn
   constructor
   .rintro⟨b,a,g,p2,h1,h2,rfl,rfl⟩;obtain⟨m,d,c,f,e,j,i,rfl,rfl⟩:=(l n).1 h2;exact⟨m,b++d,a++c,f,e,⟨b,a,d,c,h1,j,rfl,rfl⟩,i,wb,wb⟩
   .rintro⟨m,_,_,f,e,⟨b,a,d,c,h1,j,rfl,rfl⟩,i,rfl,rfl⟩;exact⟨b,a,d++f,c++e,h1,(l n).2 ⟨m,d,c,f,e,j,i,rfl,rfl⟩,wb,wb⟩
end
def Kept (G G':GM)(ps:List Nat):Prop:=∀q∈ps,(G.bW q->G'.bW q)/\G'.cont q=G.cont q
def Kept.sub {G G':GM}{qs:List Nat}(h:Kept G G' ps)(a:∀x∈qs,x∈ps):Kept G G' qs:=λq b=>h q (a q b)
def qb.kept {G G':GM}{page:Nat}{v:List UInt8}(h:qb G ps page v)(k:Kept G G' ps):qb G' ps page v:=by
 induction ps generalizing page v with
 |nil=>exact h
 |cons p ps a=>
  obtain⟨rfl,f,e,next,d,c,b⟩:=h;obtain⟨k1,k2⟩:=k page wb;exact⟨rfl,f,k1 e,next,by rw[k2];exact d,c,a b (k.sub (by simp_all))⟩
def fx.kept {G G':GM}{cs:List dq}{L:List aW}(h:fx G cs L ps)(k:Kept G G' ps):fx G' cs L ps:=by
 induction cs generalizing L ps with
 |nil=>exact h
 |cons c cs j=>
  obtain⟨v,i,m,g,f,l,rfl,rfl⟩:=h;refine⟨v,i,m,g,?_,j l (k.sub (by simp_all)),rfl,rfl⟩;rcases f with f|⟨a,b,c,d,e⟩
  .exact .inl f
  .exact .inr ⟨a,b,c,d,e.kept (k.sub (by simp_all))⟩
def nP.kept {G G':GM}{page:Nat}{n:bo}(h:nP G page n)(k:Kept G G' [page]):nP G' page n:=by
 obtain⟨k1,k2⟩:=k page wb;exact⟨k1 h.bW,by rw[k2];exact h.cont,h.ok,h.size,h.full⟩
def we.kept {G G':GM}:∀{h:Nat} {n:bo} {lo:bY} {hi:Option bY} {L:List aW} {ps:List Nat},we G h n lo hi L ps->Kept G G' ps->we G' h n lo hi L ps:=by
 intro h
 induction h with
 |zero=>rintro n lo hi L ps ⟨d,c,l,j⟩ k;exact⟨d,c,l.kept k,j⟩
 |succ h g=>
  rintro n lo hi L ps ⟨d,c⟩ k;refine⟨d,c.mono λo lo hi L q e i=>?_⟩;obtain⟨m,f,a,b,rfl⟩:=i;exact⟨m,f,a.kept (k.sub λx hx=>e x aeq),g b (k.sub λx hx=>e x aba),rfl⟩
def Sub.kept {G G':GM}{h page:Nat}{lo:bY}{hi:Option bY}{L:List aW}(d:Sub G h page lo hi L ps)(k:Kept G G' ps):Sub G' h page lo hi L ps:=by
 obtain⟨m,c,a,b,rfl⟩:=d;exact⟨m,c,a.kept (k.sub λx hx=>aeq),b.kept (k.sub λx hx=>aba),rfl⟩
end
section
variable {S:tG}{ks:List Nat}{ss:List bY}{L:List aW}{ps:List Nat}{G:GM}{cs:List dq}{h:Nat}
def fZ (L:List aW):Prop:=L.Pairwise λa b=>dO a.1 b.1
structure CE (lo:bY)(hi:Option bY)(L:List aW):Prop where
 lt:ET lo hi
 Zp:∀x∈L,lj lo x.1/\ET x.1 hi
 sorted:fZ L
def Aa {b a:List aW}(d:fZ b)(c:fZ a)(h:∀x∈b,∀y∈a,dO x.1 y.1):fZ (b++a):=aJq.2 ⟨d,c,h⟩
def cq.facts (j:∀k lo hi L q,S k lo hi L q->CE lo hi L){lo:bY}{hi:Option bY}(h:cq S ks ss lo hi L ps):
 CE lo hi L/\(∀s∈ss,dO lo s/\ET s hi)/\ss.Pairwise dO:=by
 induction ks generalizing ss lo L ps with
 |nil=>cases ss<;>exact h.elim
 |cons k ks m=>
  cases ss with
  |nil=>rw[cq.one]at h;exact⟨j _ _ _ _ _ h.2,wb,wb⟩
  |cons s ss=>
   rw[cq.cons]at h;obtain⟨z,v,w,u,p,o,rfl,rfl⟩:=h;have i:=j _ _ _ _ _ p;obtain⟨g,l,r⟩:=m o;have c:dO lo s:=i.lt;have e:=g.lt;refine⟨⟨qK c e,λx d=>?_,Aa i.sorted g.sorted λx d y n=>?_⟩,λt f=>?_,?_⟩
   .rcases aHT.1 d with d|d
    .obtain⟨a,b⟩:=i.Zp x d;exact⟨a,qK b e⟩
    .obtain⟨a,b⟩:=g.Zp x d;exact⟨(c.kO a).le,b⟩
   .have a:dO x.1 s:=(i.Zp x d).2;exact a.kO (g.Zp y n).1
   .rcases aHJ.1 f with rfl|f
    .exact⟨c,e⟩
    .obtain⟨a,b⟩:=l t f;exact⟨iK c a,b⟩
   .exact aKi.2 ⟨λt f=>(l t f).1,r⟩
def BD.facts (i:∀k lo hi L q,S k lo hi L q->CE lo hi L){lo c:bY}(h:BD S ks ss lo c L ps):
 lj lo c/\(∀x∈L,dO x.1 c):=by
 induction ks generalizing ss lo L ps with
 |nil=>cases ss with
  |nil=>obtain⟨rfl,rfl,rfl⟩:=h;exact⟨AN _,wb⟩
  |cons s ss=>exact h.elim
 |cons k ks g=>
  cases ss with
  |nil=>exact h.elim
  |cons s ss=>
   obtain⟨r,o,p,n,l,j,rfl,rfl⟩:=h;have f:=i _ _ _ _ _ l;have d:dO lo s:=f.lt;obtain⟨e,m⟩:=g j;refine⟨(d.kO e).le,λx b=>?_⟩;rcases aHT.1 b with b|b
   .have a:dO x.1 s:=(f.Zp x b).2;exact a.kO e
   .exact m x b
def leh (a:Option bY)(k:bY):Prop:=match a with|none=>False|some m=>lj m k
def O2.facts (d:∀k lo hi L q,S k lo hi L q->CE lo hi L){a hi:Option bY}(h:O2 S ks ss a hi L ps):
 (∀x∈L,leh a x.1)/\∀k,ET k a->ET k hi:=by
 cases ks with
 |nil=>cases ss with
  |nil=>obtain⟨rfl,rfl,rfl⟩:=h;exact⟨wb,λk h=>h⟩
  |cons s ss=>exact h.elim
 |cons k ks=>
  cases ss with
  |nil=>exact h.elim
  |cons s ss=>
   obtain⟨rfl,h⟩:=h;obtain⟨f,_⟩:=h.facts d;exact⟨λx b=>(f.Zp x b).1,λk c=>qK c f.lt⟩
def fx.keys (h:fx G cs L ps):L.map (·.1)=cs.map (·.key):=by
 induction cs generalizing L ps with
 |nil=>obtain⟨rfl,rfl⟩:=h;rfl
 |cons c cs a=>obtain⟨v,e,g,d,f,b,rfl,rfl⟩:=h;simp[a b]
def fx.len (h:fx G cs L ps):L.length=cs.length:=by simpa using congrArg List.length h.keys
def Ho.facts {n:bo}{lo:bY}{hi:Option bY}(h:Ho G n lo hi L ps)(d:jc n.cells):CE lo hi L:=by
 obtain⟨k,j,i,g⟩:=h;have a:=i.keys;refine⟨j,λx b=>?_,?_⟩
 .have:x.1∈n.cells.map (·.key):=by rw[<-a];exact aIW b
  obtain⟨c,f,e⟩:=aIk.1 this;rw[<-e];exact g c f
 .have:(L.map (·.1)).Pairwise dO:=by rw[a,aJT];exact d
  rw[aJT]at this;exact this
def we.facts :∀{h:Nat} {n:bo} {lo:bY} {hi:Option bY} {L:List aW} {ps:List Nat},we G h n lo hi L ps->jc n.cells->CE lo hi L:=by
 intro h
 induction h with
 |zero=>intro n lo hi L ps g c;exact Ho.facts g c
 |succ h d=>
  rintro n lo hi L ps ⟨_,f⟩ c;exact(f.facts λk lo hi L q e=>by obtain⟨m,i,a,b,rfl⟩:=e;exact d b a.ok.sorted).1
def Sub.facts {page:Nat}{lo:bY}{hi:Option bY}(c:Sub G h page lo hi L ps):CE lo hi L:=by
 obtain⟨m,d,a,b,rfl⟩:=c;exact b.facts a.ok.sorted
def Sub.tm :∀k lo hi L q,Sub G h k lo hi L q->CE lo hi L:=λ_ _ _ _ _ a=>a.facts
def cq.aE {lo:bY}{hi:Option bY}(h:cq S ks ss lo hi L ps)(P:Nat->Prop)(b:∀k lo hi L q,S k lo hi L q->∀x∈q,P x):∀x∈ps,P x:=by
 induction ks generalizing ss lo L ps with
 |nil=>cases ss<;>exact h.elim
 |cons k ks c=>
  cases ss with
  |nil=>rw[cq.one]at h;exact b _ _ _ _ _ h.2
  |cons s ss=>
   rw[cq.cons]at h;obtain⟨j,g,i,f,e,d,rfl,rfl⟩:=h;intro x a;rcases aHT.1 a with a|a
   .exact b _ _ _ _ _ e x a
   .exact c d x a
def qb.aE {page:Nat}{v:List UInt8}(h:qb G ps page v):∀x∈ps,G.bW x:=by
 induction ps generalizing page v with
 |nil=>simp
 |cons p ps b=>
  obtain⟨rfl,g,d,next,f,e,c⟩:=h;intro x a;rcases aHJ.1 a with rfl|a
  .exact d
  .exact b c x a
def fx.aE (h:fx G cs L ps):∀x∈ps,G.bW x:=by
 induction cs generalizing L ps with
 |nil=>obtain⟨rfl,rfl⟩:=h;simp
 |cons c cs b=>
  obtain⟨v,i,j,g,f,d,rfl,rfl⟩:=h;intro x a;rcases aHT.1 a with a|a
  .rcases f with⟨_,_,rfl⟩|⟨_,_,_,_,e⟩
   .cases a
   .exact e.aE x a
  .exact b d x a
def we.aE :∀{h:Nat} {n:bo} {lo:bY} {hi:Option bY} {L:List aW} {ps:List Nat},we G h n lo hi L ps->∀x∈ps,G.bW x:=by
 intro h
 induction h with
 |zero=>rintro n lo hi L ps ⟨_,_,f,_⟩;exact f.aE
 |succ h d=>
  rintro n lo hi L ps ⟨_,g⟩;refine g.aE _ λk lo hi L q e=>?_;obtain⟨m,i,a,b,rfl⟩:=e;intro x c;rcases aHJ.1 c with rfl|c
  .exact a.bW
  .exact d b x c
def Sub.aE {page:Nat}{lo:bY}{hi:Option bY}(d:Sub G h page lo hi L ps):∀x∈ps,G.bW x:=by
 obtain⟨m,e,a,b,rfl⟩:=d;intro x c;rcases aHJ.1 c with rfl|c
 .exact a.bW
 .exact b.aE x c
def cq.count {w:Nat}(a:∀k lo hi L q,S k lo hi L q->w<=q.length){lo:bY}{hi:Option bY}(h:cq S ks ss lo hi L ps):ks.length*w<=ps.length:=by
 induction ks generalizing ss lo L ps with
 |nil=>cases ss<;>exact h.elim
 |cons k ks b=>
  cases ss with
  |nil=>rw[cq.one]at h;obtain⟨rfl,h⟩:=h;simpa using a _ _ _ _ _ h
  |cons s ss=>
   rw[cq.cons]at h;obtain⟨i,f,g,e,d,c,rfl,rfl⟩:=h;have:=a _ _ _ _ _ d;have:=b c;rw[aIg,aHR,aIV];omega
def Sub.count :∀{h page:Nat} {lo:bY} {hi:Option bY} {L:List aW} {ps:List Nat},Sub G h page lo hi L ps->2^h<=ps.length:=by
 intro h
 induction h with
 |zero=>rintro page lo hi L ps ⟨m,d,a,b,rfl⟩;simp
 |succ h e=>
  rintro page lo hi L ps ⟨m,d,a,⟨g,c⟩,rfl⟩;have h1:=c.count (w:=2^h) λk lo hi L q f=>e f;have h2:=c.len
  have j:0<m.fe.length:=by
   rcases a.full with h|h
   .rw[g]at h;cases h
   .unfold bo.fe;rw[aIx];exact aJu.2 h
  have i:2*2^h<=m.kids.length*2^h:=aIB _ uM;rw[aKt,aIg];omega
def Sub.abB :∀{h page:Nat} {lo:bY} {hi:Option bY} {L:List aW} {ps:List Nat},Sub G h page lo hi L ps->2^(h+1)-1<=ps.length:=by
 intro h
 induction h with
 |zero=>rintro page lo hi L ps ⟨m,d,a,b,rfl⟩;simp
 |succ h e=>
  rintro page lo hi L ps ⟨m,d,a,⟨g,c⟩,rfl⟩;have h1:=c.count (w:=2^(h+1)-1) λk lo hi L q f=>e f;have h2:=c.len
  have j:0<m.fe.length:=by
   rcases a.full with h|h
   .rw[g]at h;cases h
   .unfold bo.fe;rw[aIx];exact aJu.2 h
  have i:2*(2^(h+1)-1)<=m.kids.length*(2^(h+1)-1):=aIB _ uM;rw[aKt 2 (h+1),aIg];omega
def kT:∀(n:Nat) (l:List Nat),l.Nodup->(∀x∈l,x<n)->l.length<=n:=by
 intro n
 induction n with
 |zero=>intro l _ h;cases l with|nil=>simp|cons a l=>exact absurd (h a wb) uM
 |succ n f=>
  intro l d h
  by_cases g:n∈l
  .have h1:=f (l.erase n) (d.erase n) λx c=>by
    obtain⟨a,b⟩:=d.mem_erase_iff.1 c;have:=h x b;omega
   rw[List.length_erase_of_mem g]at h1;omega
  .have:=f l d λx c=>by
    have:=h x c;have:x≠n:=λe=>g (e▸c);omega
   omega
def Aw (c:ps.Nodup)(b:∀x∈ps,G.bW x)(d:1<=G.used):ps.length+1<=G.used:=by
 have:=kT G.used (0::ps) (aHX.2 ⟨λh=>by have:=(b 0 h).1;omega,c⟩) λx a=>by
  rcases aHJ.1 a with rfl|a
  .omega
  .exact(b x a).2.1
 simpa using this
def Sub.deep {page:Nat}{lo:bY}{hi:Option bY}(c:Sub G h page lo hi L ps)(d:ps.Nodup)(a:uK G):h<=16:=by
 have h1:=c.count;have h2:=Aw d c.aE a.one;have f:=a.ik;have e:=a.size;rcases aIX 16 h with b|b
 .have:2^17<=2^h:=aKm uM b;omega
 .exact b
def Sub.aiV {page:Nat}{lo:bY}{hi:Option bY}(a:Sub G h page lo hi L ps)(d:ps.Nodup)(b:uK G)(e:G.aE<=4095):h<=10:=by
 have h1:=a.abB;have h2:=Aw d a.aE b.one;have f:=b.ik;rcases aIX 10 h with c|c
 .have:2^12<=2^(h+1):=aKm uM uM;omega
 .exact c
structure db where
 page:Nat
 at_:Nat
 n:bo
def Ctx (G:GM):Nat->List db->Nat->bY->Option bY->List aW->List aW->List Nat->Prop
 |_,[],page,lo,hi,Ll,Lr,ps=>page=G.root/\lo=[]/\hi=none/\Ll=[]/\Lr=[]/\ps=[]
 |h,s::l,page,lo,hi,Ll,Lr,ps=>∃f g a b c j e i d,Ctx G (h+1) l s.page f g a b c/\nP G s.page s.n/\s.n.leaf=false/\s.n.kids[s.at_]?=some page/\
  BD (Sub G h) (s.n.kids.take s.at_) (s.n.fe.take s.at_) f lo j e/\O2 (Sub G h) (s.n.kids.drop (s.at_+1)) (s.n.fe.drop s.at_) hi g i d/\Ll=a++j/\Lr=i++b/\ps=s.page::(e++(d++c))
def AO (a:List Nat)(i:Nat)(page:Nat)(h:a[i]?=some page):a=a.take i++page::a.drop (i+1):=by
 obtain⟨hi,rfl⟩:=aHW.1 h
 conv=>lhs;rw[<-aIA i a,aIe hi]
def Ctx.fill :∀{l:List db} {h page:Nat} {lo:bY} {hi:Option bY} {c b:List aW} {ps:List Nat},Ctx G h l page lo hi c b ps->∀{L:List aW} {q:List Nat},Sub G h page lo hi L q->
 ∃ql,ql.Perm (q++ps)/\Sub G (h+l.length) G.root [] none (c++(L++b)) ql:=by
 intro l
 induction l with
 |nil=>
  rintro h page lo hi c b ps ⟨rfl,rfl,rfl,rfl,rfl,rfl⟩ L q hs;exact⟨q,wb,aco⟩
 |cons s l m=>
  rintro h page lo hi c b ps ⟨k,y,B,C,ql,i,g,d,a,w,v,u,r,j,p,rfl,rfl,rfl⟩ L q hs
  have o:cq (Sub G h) s.n.kids s.n.fe k y (i++(L++d)) (g++(q++a)):=by
   rw[AO _ _ _ r]
   conv=>arg 3;rw[<-aIA s.at_ s.n.fe]
   exact(cq.split j.len).2 ⟨lo,i,g,L++d,q++a,j,cq.focus.2 ⟨hi,L,q,d,a,hs,p,rfl,rfl⟩,rfl,rfl⟩
  obtain⟨f,A,z⟩:=m w (L:=i++(L++d)) (q:=s.page::(g++(q++a))) ⟨s.n,_,v,⟨u,o⟩,rfl⟩;refine⟨f,A.trans ?_,?_⟩
  .refine(aJE.2 λx=>?_);simp only[aJM,aJZ];omega
  .have e:h+(s::l).length=h+1+l.length:=by simp;omega
   rw[e]
   simpa using z
def Ctx.kept {G':GM}(p:G'.root=G.root):∀{l:List db} {h page:Nat} {lo:bY} {hi:Option bY} {b a:List aW} {ps:List Nat},Ctx G h l page lo hi b a ps->Kept G G' ps->Ctx G' h l page lo hi b a ps:=by
 intro l
 induction l with
 |nil=>rintro h page lo hi b a ps ⟨e,d⟩ _;exact⟨by rw[p];exact e,d⟩
 |cons s l o=>
  rintro h page lo hi b a ps ⟨n,y,f,g,i,A,m,z,j,e,d,w,v,u,r,rfl,rfl,rfl⟩ k
  exact⟨n,y,f,g,i,A,m,z,j,o e (k.sub (by simp_all)),d.kept (k.sub (by simp_all)),w,v,u.mono λ_ _ _ _ q hq c=>c.kept (k.sub λx hx=>aaY),
   r.mono λ_ _ _ _ q hq c=>c.kept (k.sub λx hx=>aaY),rfl,rfl,rfl⟩
def Ctx.aE :∀{l:List db} {h page:Nat} {lo:bY} {hi:Option bY} {g f:List aW} {ps:List Nat},Ctx G h l page lo hi g f ps->∀x∈ps,G.bW x:=by
 intro l
 induction l with
 |nil=>rintro h page lo hi g f ps ⟨_,_,_,_,_,rfl⟩;simp
 |cons s l i=>
  rintro h page lo hi g f ps ⟨D,H,v,w,y,J,A,I,z,u,r,F,E,q,o,rfl,rfl,rfl⟩ x c
  have n:∀{ks:List Nat} {ss:List bY} {lo d:bY} {L:List aW} {p:List Nat},BD (Sub G h) ks ss lo d L p->∀x∈p,G.bW x:=by
   intro ks
   induction ks with
   |nil=>intro ss lo d L p hh;cases ss with
    |nil=>obtain⟨_,_,rfl⟩:=hh;simp
    |cons s ss=>exact hh.elim
   |cons k ks e=>
    intro ss lo d L p hh;cases ss with
    |nil=>exact hh.elim
    |cons s ss=>
     obtain⟨M,C,K,B,a,b,rfl,rfl⟩:=hh;intro x c;rcases aHT.1 c with c|c
     .exact a.aE x c
     .exact e b x c
  have m:∀{ks:List Nat} {ss:List bY} {d hi:Option bY} {L:List aW} {p:List Nat},O2 (Sub G h) ks ss d hi L p->∀x∈p,G.bW x:=by
   intro ks ss d hi L p hh;cases ks with
   |nil=>cases ss with
    |nil=>obtain⟨_,_,rfl⟩:=hh;simp
    |cons s ss=>exact hh.elim
   |cons k ks=>cases ss with
    |nil=>exact hh.elim
    |cons s ss=>exact hh.2.aE _ λ_ _ _ _ _ j=>j.aE
  simp only[aHJ,aHT]at c;rcases c with rfl|c|c|c
  .exact r.bW
  .exact n q x c
  .exact m o x c
  .exact i u x c
def Ctx.aez :∀{l:List db} {h page:Nat} {lo:bY} {hi:Option bY} {d c:List aW} {ps:List Nat},Ctx G h l page lo hi d c ps->(∀x∈d,dO x.1 lo)/\(∀x∈c,leh hi x.1):=by
 intro l
 induction l with
 |nil=>rintro h page lo hi d c ps ⟨_,_,_,rfl,rfl,_⟩;simp
 |cons s l e=>
  rintro h page lo hi d c ps ⟨B,p,v,w,y,H,A,F,z,o,E,D,C,n,k,rfl,rfl,rfl⟩;obtain⟨i,g⟩:=e o;obtain⟨u,r⟩:=n.facts Sub.tm;obtain⟨q,f⟩:=k.facts Sub.tm;refine⟨λx b=>?_,λx b=>?_⟩
  .rcases aHT.1 b with b|b
   .exact(i x b).kO u
   .exact r x b
  .rcases aHT.1 b with b|b
   .exact q x b
   .have h:=g x b;cases p with
    |none=>exact h.elim
    |some m'=>
     cases hi with
     |none=>exact absurd (f (m'++[0]) trivial) (λh=>by
      have:¬dO (m'++[0]) m':=by
       have:∀m:bY,¬dO (m++[0]) m:=λm=>by
        induction m with
        |nil=>exact ij _
        |cons a m e=>rw[aIL,lY];rintro(h|⟨_,h⟩);exact UInt8.lt_irrefl a h;exact e h
       exact this m'
      exact this h)
     |some m=>
      have j:lj m m':=by
       rcases Dj m m' with h|h
       .exact h
       .have:=f m' h;exact absurd this (jf _)
      exact j.trans h
end
section
variable {G:GM}{L:List aW}{ps:List Nat}{i h:Nat}{n a:bo}{s:bY}{q:List Nat}{S:tG}{k2:List Nat}{s2:List bY}{L1 L2:List aW}{q1 q2:List Nat}
def fx.append {g o:List dq}:fx G (g++o) L ps↔∃L1 b L2 p2,fx G g L1 b/\fx G o L2 p2/\L=L1++L2/\ps=b++p2:=by
 induction g generalizing L ps with
 |nil=>
  constructor
  .intro h;exact⟨[],[],L,ps,⟨rfl,rfl⟩,h,rfl,rfl⟩
  .rintro⟨L1,b,L2,p2,⟨rfl,rfl⟩,h,rfl,rfl⟩;exact h
 |cons c g m=>
  constructor
  .rintro⟨v,b,L2,p2,h1,h2,rfl,rfl⟩;obtain⟨e,d,j,f,l,k,rfl,rfl⟩:=m.1 h2;exact⟨(c.key,v)::e,b++d,j,f,⟨v,b,e,d,h1,l,rfl,rfl⟩,k,wb,wb⟩
  .rintro⟨_,_,j,f,⟨v,b,e,d,h1,l,rfl,rfl⟩,k,rfl,rfl⟩;exact⟨v,b,e++j,d++f,h1,m.2 ⟨e,d,j,f,l,k,rfl,rfl⟩,wb,wb⟩
def vo {l:List dq}(h:jc l)(hi:i<l.length):(∀c∈l.take i,dO c.key l[i].key)/\(∀c∈l.drop i,lj l[i].key c.key)/\∀c∈l.drop (i+1),dO l[i].key c.key:=by
 have e:l=l.take i++l[i]::l.drop (i+1):=by
  conv=>lhs;rw[<-aIA i l,aIe hi]
 have g:(l.take i++l[i]::l.drop (i+1)).Pairwise λa b=>dO a.key b.key:=by rw[<-e];exact h
 rw[aJq]at g;obtain⟨_,f,j⟩:=g;rw[aKi]at f;refine⟨λc d=>j c d _ aIO,λc d=>?_,f.1⟩;rw[aIe hi]at d;rcases aHJ.1 d with rfl|d
 .exact AN _
 .exact(f.1 c d).le
def kP (n:bo):n.fe.length=n.cells.length:=by unfold bo.fe;simp
def PH (n:bo)(h:i<n.cells.length):n.fe[i]'(by rw[kP];exact h)=n.cells[i].key:=by unfold bo.fe;simp
def we.cut {b:bo}{lo:bY}{hi:Option bY}(f:we G h n lo hi L q)(A:n.ok)(H:BE n a b i s):
 ∃L1 q1 L2 q2,we G h a lo (some s) L1 q1/\we G h b s hi L2 q2/\L=L1++L2/\q=q1++q2:=by
 have d:=H.lt;obtain⟨p,w,D⟩:=vo A.sorted d;rw[<-H.key]at p w D;cases h with
 |zero=>
  obtain⟨v,k,x,m⟩:=f;rcases H.eqs with⟨g,l,o⟩|⟨g,_⟩
  .rw[<-aIA i n.cells]at x;obtain⟨L1,q1,L2,q2,u,r,rfl,rfl⟩:=fx.append.1 x;have hs:=m _ (aIc d);rw[<-H.key]at hs;have C:(n.cells.take i)≠[]:=by have:=H.neA;rw[l]at this;exact this
   obtain⟨y,z⟩:=List.exists_mem_of_ne_nil _ C;have I:=(m y (aIw z)).1.zV (p y z);refine⟨L1,q1,L2,q2,?_,?_,rfl,rfl⟩
   .rw[l];exact⟨rfl,I,u,λc f=>⟨(m c (aIw f)).1,p c f⟩⟩
   .rw[o];exact⟨rfl,hs.2,r,λc f=>⟨w c f,(m c (aID f)).2⟩⟩
  .rw[v]at g;cases g
 |succ h=>
  obtain⟨v,k⟩:=f;rcases H.eqs with⟨g,_⟩|⟨g,l,o⟩
  .rw[v]at g;cases g
  .have B:=k.len;rw[kP]at B
   have E:n.fe=(n.fe.take i++[s])++n.fe.drop (i+1):=by
    conv=>lhs;rw[<-aIA (i+1) n.fe,aIa (by rw[kP];exact d),PH n d,<-H.key]
   rw[E]at k
   conv at k=>arg 2;rw[<-aIA (i+1) n.kids]
   have j:(n.kids.take (i+1)).length=(n.fe.take i++[s]).length:=by simp[kP];omega
   obtain⟨J,L1,q1,L2,q2,u,r,rfl,rfl⟩:=(cq.split j).1 k;obtain⟨rfl,F⟩:=BD.snoc.1 u;refine⟨L1,q1,L2,q2,?_,?_,rfl,rfl⟩
   .rw[l];refine⟨rfl,?_⟩;have e:bo.fe ⟨false,n.cells.take i,n.kids.take (i+1)⟩=n.fe.take i:=by unfold bo.fe;simp[aJI]
    rw[e];exact F
   .rw[o];refine⟨rfl,?_⟩;have e:bo.fe ⟨false,n.cells.drop (i+1),n.kids.drop (i+1)⟩=n.fe.drop (i+1):=by unfold bo.fe;simp[aJs]
    rw[e];exact r
def we.leaf {lo:bY}{hi:Option bY}(b:we G h n lo hi L q):n.leaf=decide (h=0):=by
 cases h with
 |zero=>exact b.1
 |succ h=>exact b.1
def cq.join {c:List Nat}{b:List bY}{lo:bY}{hi:Option bY}(f:cq S c b lo (some s) L1 q1)(d:cq S k2 s2 s hi L2 q2):cq S (c++k2) (b++s::s2) lo hi (L1++L2) (q1++q2):=by
 have e:b++s::s2=(b++[s])++s2:=wb
 rw[e];have:=BD.snoc.2 ⟨rfl,f⟩;exact(cq.split this.len).2 ⟨s,L1,q1,L2,q2,this,d,rfl,rfl⟩
def we.join {b:bo}{lo:bY}{hi:Option bY}(C:we G h a lo (some s) L1 q1)(B:we G h b s hi L2 q2)(l:a.ok)(j:b.ok)(R:s.length<=48):
 we G h (dx a s b) lo hi (L1++L2) (q1++q2)/\(dx a s b).ok/\(dx a s b).size<=a.size+b.size+52:=by
 have U:=C.leaf;have OS:=B.leaf;have fa:=C.facts l.sorted;have fb:=B.facts j.sorted
 have Q:(uv (a.cells.length+b.cells.length)).length<=(uv a.cells.length).length+(uv b.cells.length).length+1:=by
  have u:∀m n,m<=n->(uv (n+m)).length<=(uv n).length+1:=by
   intro m n T;have F:(uv (n+m)).length<=(uv (2*n)).length:=wh uM
   have Z:∀n,(uv (2*n)).length<=(uv n).length+1:=by
    intro n
    induction n using Nat.strongRecOn with
    |_ n D=>
     by_cases E:127<n
     .rw[jb E,jb (n:=2*n) uM,aIg,aIg];have Y:=D (n/128) uM;have X:(uv (2*n/128)).length<=(uv (2*(n/128)+1)).length:=wh uM
      by_cases h5:n/128<=63
      .have:(uv (2*(n/128)+1)).length=1:=eR uM;omega
      .have h6:(uv (2*(n/128)+1)).length<=(uv (2*(n/128))).length:=by
        have V:127<2*(n/128):=uM
        rw[jb V,jb (n:=2*(n/128)+1) uM,aIg,aIg];have:(2*(n/128)+1)/128=2*(n/128)/128:=uM
        rw[this];exact aHK _
       omega
     .have:(uv (2*n)).length<=2:=re uM;rw[eR (n:=n) uM];omega
   have:=Z n;omega
  rcases Nat.le_total a.cells.length b.cells.length with h|h
  .have:=u _ _ h;rw[aKL];omega
  .have:=u _ _ h;omega
 cases h with
 |zero=>
  obtain⟨g,A,a3,K⟩:=C;obtain⟨p,z,b3,J⟩:=B;have H:dx a s b=⟨true,a.cells++b.cells,[]⟩:=by unfold dx;rw[aHP g]
  rw[H];refine⟨⟨rfl,qK A z,fx.append.2 ⟨L1,q1,L2,q2,a3,b3,rfl,rfl⟩,λc d=>?_⟩,⟨λc d=>?_,?_,rfl,wb⟩,?_⟩
  .rcases aHT.1 d with d|d
   .obtain⟨x,y⟩:=K c d;exact⟨x,qK y z⟩
   .obtain⟨x,y⟩:=J c d;have Wh:dO lo s:=A;exact⟨(Wh.kO x).le,y⟩
  .rcases aHT.1 d with d|d
   .have:=l.cell c d;rw[g]at this;exact this
   .have:=j.cell c d;rw[p]at this;exact this
  .refine aJq.2 ⟨l.sorted,j.sorted,λx f y o=>?_⟩;have F:dO x.key s:=(K x f).2;exact F.kO (J y o).1
  .rw[cr,cr,cr,g,p];simp only[aIj,eC,aHR];omega
 |succ h=>
  obtain⟨g,A⟩:=C;obtain⟨p,z⟩:=B;have H:dx a s b=⟨false,a.cells++(fO s::b.cells),a.kids++b.kids⟩:=by unfold dx;rw[aHM (by rw[g];decide)]
  rw[H];obtain⟨_,N,_⟩:=A.facts Sub.tm;obtain⟨_,M,_⟩:=z.facts Sub.tm;have r:(fO s).ok false:=⟨R,λ_=>⟨rfl,rfl,rfl⟩,λh=>(by cases h),λh=>(by cases h)⟩;have P:=l.jR;have O:=j.jR;rw[g,aHM xI]at P;rw[p,aHM xI]at O;refine⟨⟨rfl,?_⟩,⟨λc d=>?_,?_,?_,λk w=>?_⟩,?_⟩
  .have e:bo.fe ⟨false,a.cells++(fO s::b.cells),a.kids++b.kids⟩=a.fe++s::b.fe:=by unfold bo.fe;simp[fO]
   rw[e];exact A.join z
  .rcases aHT.1 d with d|d
   .have:=l.cell c d;rw[g]at this;exact this
   .rcases aHJ.1 d with rfl|d
    .exact r
    .have:=j.cell c d;rw[p]at this;exact this
  .have I:∀x∈a.cells,dO x.key s:=λx f=>(N x.key (aIW f)).2;have v:∀x∈b.cells,dO s x.key:=λx f=>(M x.key (aIW f)).1;refine aJq.2 ⟨l.sorted,aKi.2 ⟨λy o=>v y o,j.sorted⟩,λx f y o=>?_⟩;rcases aHJ.1 o with rfl|o
   .exact I x f
   .exact iK (I x f) (v y o)
  .simp;omega
  .rcases aHT.1 w with w|w
   .exact l.Dl k w
   .exact j.Dl k w
  .rw[cr,cr,cr,g,p];have W:=(jv r).2.2 rfl;have e:(a.cells++fO s::b.cells).length=a.cells.length+b.cells.length+1:=by simp;omega
   have F:(uv (a.cells.length+b.cells.length+1)).length<=(uv (a.cells.length+b.cells.length)).length+1:=by
    generalize a.cells.length+b.cells.length=m
    induction m using Nat.strongRecOn with
    |_ n D=>
     by_cases E:127<n
     .rw[jb E,jb (n:=n+1) uM,aIg,aIg];have Y:=D (n/128) uM;have X:(uv ((n+1)/128)).length<=(uv (n/128+1)).length:=wh uM;omega
     .have:(uv (n+1)).length<=2:=re uM;rw[eR (n:=n) uM];omega
   simp only[aHH,aHV,eC,fy,jg,aHR,e];omega
def cq.RP {f:List Nat}{d:List bY}{lo:bY}{j hi:Option bY}{Lm g:List aW}{pm e:List Nat}(c:cq S f d lo j Lm pm)(p:O2 S k2 s2 j hi g e):cq S (f++k2) (d++s2) lo hi (Lm++g) (pm++e):=by
 induction f generalizing d lo Lm pm with
 |nil=>cases d<;>exact c.elim
 |cons k f o=>
  cases d with
  |nil=>
   rw[cq.one]at c;obtain⟨rfl,c⟩:=c;exact cq.focus.2 ⟨j,Lm,pm,g,e,c,p,rfl,rfl⟩
  |cons s d=>
   rw[cq.cons]at c;obtain⟨L1,m,L2,l,a,b,rfl,rfl⟩:=c;rw[aIL,aIL,cq.cons];exact⟨L1,m,L2++g,l++e,a,o b,wb,wb⟩
structure fC (G:GM)(L:List aW):Prop where
 ok:uK G
 tree:(G.root=0/\L=[])\/∃h ps,ps.Nodup/\Sub G h G.root [] none L ps
def lZ {page:Nat}{x:PC}(h:page∉ps):Kept G (G.put page x) ps:=λq b=>⟨λh=>h,JJ _ _ _ _ λe=>h (e▸b)⟩
def Ctx.write {l:List db}{page:Nat}{lo:bY}{hi:Option bY}{e d:List aW}(p:Ctx G h l page lo hi e d ps)(r:uK G)(j:G.bW page)(m:n.ok)(k:n.size<=512)(o:n.leaf=true\/n.cells≠[])
 (g:we G h n lo hi L q) (b:(page::(q++ps)).Nodup):fC (G.put page (.node n)) (e++(L++d)):=by
 rw[aHX]at b;have c:page∉q/\page∉ps:=by simpa using b.1
 obtain⟨f,v,u⟩:=(Ctx.kept (G:=G) (G':=G.put page (.node n)) rfl p (lZ c.2)).fill (L:=L) (q:=page::q) ⟨n,q,⟨j,mS _ _ _,m,k,o⟩,g.kept (lZ c.1),rfl⟩;exact⟨r.put _ _,.inr ⟨_,f,v.nodup_iff.2 (aHX.2 b),u⟩⟩
end
section
variable {n:bo}{S:tG}{ks:List Nat}{ss:List bY}{L:List aW}{ps:List Nat}{G:GM}{h:Nat}{q:List Nat}
def jk (n:bo)(a:bY):Nat:=n.cells.findIdx λc=>decide (dO a c.key)
def tk {l:List dq}(h:jc l)(p:bY->Bool)(j:∀a b,dO a b->p a=true->p b=true):(∀c∈l.take (l.findIdx λc=>p c.key),p c.key=false)/\∀c∈l.drop (l.findIdx λc=>p c.key),p c.key=true:=by
 induction l with
 |nil=>simp
 |cons a l f=>
  unfold jc at h;rw[aKi]at h;obtain⟨i,g⟩:=f h.2;rw[List.findIdx_cons];cases d:p a.key with
  |true=>
   simp only[cond_true,aJG,aIn];refine⟨wb,λc e=>?_⟩;rcases aHJ.1 e with rfl|e
   .exact d
   .exact j _ _ (h.1 c e) d
  |false=>
   simp only[cond_false,List.take_succ_cons,aKv];refine⟨λc e=>?_,g⟩;rcases aHJ.1 e with rfl|e
   .exact d
   .exact i c e
def rL (h:jc n.cells)(d:bY):n.find d<=n.cells.length/\(∀c∈n.cells.take (n.find d),dO c.key d)/\∀c∈n.cells.drop (n.find d),lj d c.key:=by
 obtain⟨j,i⟩:=tk h (λk=>decide (lj d k)) λa b f g=>by
  simp only[aIP]at*;exact(g.zV f).le
 refine⟨aKb,λc e=>?_,λc e=>by simpa using i c e⟩;have:=j c e;simp only[decide_eq_false_iff_not]at this;rcases Dj d c.key with h|h
 .exact absurd h this
 .exact h
def Dk (h:jc n.cells)(d:bY):jk n d<=n.cells.length/\(∀c∈n.cells.take (jk n d),lj c.key d)/\∀c∈n.cells.drop (jk n d),dO d c.key:=by
 obtain⟨j,i⟩:=tk h (λk=>decide (dO d k)) λa b f g=>by
  simp only[aIP]at*;exact iK g f
 exact⟨aKb,λc e=>by have:=j c e;simpa[lj]using this,λc e=>by simpa using i c e⟩
def Zb (h:jc n.cells)(key:bY):jk n key=match n.cells[n.find key]? with|some c=>if c.key=key then n.find key+1 else n.find key|none=>n.find key:=by
 obtain⟨B,y,x⟩:=rL h key;obtain⟨z,s,k⟩:=Dk h key
 have v:n.find key<=jk n key:=by
  rcases aIX (jk n key) (n.find key)with u|r
  .have d:jk n key<n.cells.length:=by omega
   have a:=k n.cells[jk n key] (by rw[aIe d];exact aIO);have b:=y n.cells[jk n key] (by rw[List.mem_iff_getElem];exact⟨jk n key,TP,wb⟩);exact absurd a (ju b)
  .exact r
 have g:∀j,n.find key<=j->j<jk n key->∃A:j<n.cells.length,n.cells[j].key=key:=λj m w=>by
  have d:j<n.cells.length:=uM
  have a:=s n.cells[j] (by rw[List.mem_iff_getElem];exact⟨j,TP,wb⟩);have b:=x n.cells[j] (by rw[List.mem_iff_getElem];exact⟨j-n.find key,aaK,by simp;congr 1;omega⟩);exact⟨d,wU a b⟩
 cases hg:n.cells[n.find key]? with
 |none=>
  rw[List.getElem?_eq_none_iff]at hg;dsimp only;omega
 |some c=>
  obtain⟨d,l⟩:=aHW.1 hg;dsimp only
  by_cases f:c.key=key
  .rw[aHP f]
   have m:n.find key<jk n key:=by
    rcases aIX (n.find key) (jk n key)with h|h
    .exact h
    .have:jk n key=n.find key:=by omega
     have a:=k n.cells[n.find key] (by rw[this,aIe d];exact aIO);rw[l,f]at a;exact absurd a (jf _)
   have w:jk n key<=n.find key+1:=by
    rcases aIX (n.find key+1) (jk n key)with h3|h3
    .obtain⟨i,e⟩:=g (n.find key) (aHK _) m;obtain⟨p,o⟩:=g (n.find key+1) uM h3;have:=aKl.1 h (n.find key) (n.find key+1) i p uM;rw[e,o]at this;exact absurd this (jf _)
    .exact h3
   omega
  .rw[aHM f];rcases aIX (n.find key) (jk n key)with h|h
   .obtain⟨i,e⟩:=g (n.find key) (aHK _) h;rw[l]at e;exact absurd e f
   .omega
def BD.key (j:∀k lo hi L q,S k lo hi L q->CE lo hi L){lo a key:bY}(h:BD S ks ss lo a L ps)(f:lj lo key)(b:∀s∈ss,lj s key):lj a key:=by
 induction ks generalizing ss lo L ps with
 |nil=>cases ss with
  |nil=>obtain⟨rfl,_⟩:=h;exact f
  |cons s ss=>exact h.elim
 |cons k ks c=>
  cases ss with
  |nil=>exact h.elim
  |cons s ss=>
   obtain⟨o,i,m,g,l,e,rfl,rfl⟩:=h;exact c e (b s wb) λt d=>b t (by simp[d])
def O2.key {b hi:Option bY}{a:bY}(h:O2 S ks ss b hi L ps)(d:ET a hi)(c:∀s∈ss,dO a s):ET a b:=by
 cases ks with
 |nil=>cases ss with
  |nil=>obtain⟨rfl,_⟩:=h;exact d
  |cons s ss=>exact h.elim
 |cons k ks=>
  cases ss with
  |nil=>exact h.elim
  |cons s ss=>obtain⟨rfl,_⟩:=h;exact c s wb
def Ctx.descend {l:List db}{page:Nat}{lo:bY}{hi:Option bY}{u r:List aW}{a:bY}(d:Ctx G (h+1) l page lo hi u r ps)(v:nP G page n)(C:we G (h+1) n lo hi L q)(M:lj lo a)(J:ET a hi):
 ∃j g b f Lm e k pm,n.kids[jk n a]?=some j/\Ctx G h (⟨page,jk n a,n⟩::l) j g b (u++f) (e++r) k/\Sub G h j g b Lm pm/\lj g a/\ET a b/\L=f++(Lm++e)/\(pm++k).Perm (page::(q++ps)):=by
 obtain⟨N,E,D⟩:=Dk v.ok.sorted a;obtain⟨I,z⟩:=C;have hlen:=z.len;rw[kP]at hlen;generalize jk n a=i at*;have o:i<n.kids.length:=uM
 have p:=z;rw[AO n.kids i n.kids[i] (aHO o)]at p;rw[<-aIA i n.fe]at p;have K:(n.kids.take i).length=(n.fe.take i).length:=by rw[aHZ,aHZ,kP];omega
 obtain⟨g,f,B,O,k,y,H,rfl,rfl⟩:=(cq.split K).1 p;obtain⟨b,Lm,pm,e,A,F,w,rfl,rfl⟩:=cq.focus.1 H;refine⟨n.kids[i],g,b,f,Lm,e,_,pm,aHO o,⟨lo,hi,u,r,ps,f,B,e,A,d,v,I,aHO o,y,w,rfl,rfl,rfl⟩,F,?_,?_,rfl,?_⟩
 .refine y.key Sub.tm M λs m=>?_;have:s∈(n.cells.take i).map (·.key):=by rw[aJI];exact m
  obtain⟨c,d,rfl⟩:=aIk.1 this;exact E c d
 .refine w.key J λs m=>?_;have:s∈(n.cells.drop i).map (·.key):=by rw[aJs];exact m
  obtain⟨c,d,rfl⟩:=aIk.1 this;exact D c d
 .refine(aJE.2 λx=>?_);simp only[aJM,aJZ];omega
def sG (a:uK G){n:Nat}(h:G.bW n):n<=rB:=by
 have:=h.2.1;have:=a.ik;have:=a.size;show n<=2147483647;omega
def Kept.trans {G' a:GM}(h:Kept G G' ps)(k:Kept G' a ps):Kept G a ps:=λq b=>⟨λc=>(k q b).1 ((h q b).1 c),by rw[(k q b).2,(h q b).2]⟩
def vH (a:MR G)(h:G.dA∉ps):Kept G G.alloc ps:=λq c=>⟨λb=>(a.bW q).2 (.inl b),a.cont q λe=>h (e▸c)⟩
structure IZ (G:GM)(b:bo)(G':GM)(r:Nat):Prop where
 ok:uK G'
 not:¬G.bW r
 is:nP G' r b
 kept:∀ps,r∉ps->Kept G G' ps
 root:G'.root=G.root
 free:G'.cD+1=G.cD
 aE:G'.aE=G.aE
 bW:∀q,G'.bW q↔G.bW q\/q=r
 ef:G'.ef.length<=G.ef.length+1
def SK (i:uK G)(f:0<G.cD){b:bo}(g:b.ok)(d:b.size<=512)(e:b.leaf=true\/b.cells≠[]):IZ G b (G.alloc.put G.dA (.node b)) G.dA:=by
 have a:=uq i f;exact⟨a.ok.put _ _,a.not,⟨(a.bW _).2 (.inr rfl),mS _ _ _,g,d,e⟩,λps c=>(vH a c).trans (lZ c),a.root,a.free,a.aE,a.bW,MO _ _⟩
def Jq {I l:GM}{page r r':Nat}{a b:bo}{i:Nat}{s:bY}(R:uK G)(w:G.bW page)(P:n.ok)(H:BE n a b i s)(O:we G h n [] none L q)(u:(page::q).Nodup)
 (d:IZ (G.put page (.node a)) b I r) (c:IZ I ⟨false,[fO s],[page,r]⟩ l r'):fC (l.fD r') L:=by
 obtain⟨F,j,E,q2,D,C,rfl,rfl⟩:=O.cut P H;rw[aHX]at u;have f:page∉j/\page∉q2:=by simpa using u.1
 have u1:=D.aE;have u2:=C.aE;have k:r≠page/\r∉j/\r∉q2:=⟨λe=>d.not (e▸w),λh=>d.not (u1 r h),λh=>d.not (u2 r h)⟩;have g:r'≠page/\r'≠r/\r'∉j/\r'∉q2:=⟨λe=>c.not ((d.bW _).2 (.inl (e▸w))),λe=>c.not ((d.bW _).2 (.inr e)),λh=>c.not ((d.bW _).2 (.inl (u1 r' h))),λh=>c.not ((d.bW _).2 (.inl (u2 r' h)))⟩;have A:∀ps,page∉ps->r∉ps->r'∉ps->Kept G (l.fD r') ps:=λps J o m=>((lZ J).trans (d.kept ps o)).trans (c.kept ps m);have p:∀ps,r∉ps->r'∉ps->Kept (G.put page (.node a)) (l.fD r') ps:=λps o m=>(d.kept ps o).trans (c.kept ps m);have Q:a.leaf=true\/a.cells≠[]:=.inr H.neA;refine⟨c.ok.fD _,.inr ⟨h+1,r'::((page::j)++(r::q2)),?_,⟨false,[fO s],[page,r]⟩,_,⟨c.is.bW,c.is.cont,c.is.ok,c.is.size,c.is.full⟩,⟨rfl,?_⟩,rfl⟩⟩
 .have z:=u.2;rw[aIE]at z;obtain⟨N,M,K⟩:=z;simp only[aIL,aHX,aHJ,aHT,aJf,aIE]
  exact⟨⟨g.1,g.2.2.1,g.2.1,g.2.2.2⟩,⟨f.1,aIG k.1,f.2⟩,N,⟨k.2.2,M⟩,λx B y v=>by
   rcases v with rfl|v
   .exact λe=>k.2.1 (e▸B)
   .exact K x B y v⟩
 .show cq (Sub (l.fD r') h) [page,r] [s] [] none (F++E) _;rw[cq.cons];refine⟨F,page::j,E,r::q2,⟨a,j,?_,D.kept (A j f.1 k.2.1 g.2.2.1),rfl⟩,?_,rfl,rfl⟩
  .exact nP.kept (G:=G.put page (.node a)) ⟨w,mS _ _ _,H.Nu,H.szA,Q⟩ (p [page] (by simpa using k.1) (by simpa using g.1))
  .rw[cq.one];refine⟨rfl,b,q2,d.is.kept (c.kept [r] (by simpa using g.2.1)),C.kept (A q2 f.2 k.2.2 g.2.2.2),rfl⟩
end
section
variable {s:bY}{L:List aW}{q:List Nat}{n:bo}{i r:Nat}
def more (n:bo)(i:Nat)(s:bY)(r:Nat):bo:=⟨false,n.cells.take i++fO s::n.cells.drop i,n.kids.take (i+1)++r::n.kids.drop (i+1)⟩
def NA (n:bo)(i:Nat)(s:bY)(r:Nat):(more n i s r).fe=n.fe.take i++([s]++n.fe.drop i):=by
 unfold bo.fe more;simp[fO,aJI,aJs]
def tN (h:s.length<=48):(fO s).ok false:=⟨h,λ_=>⟨rfl,rfl,rfl⟩,λh=>(by cases h),λh=>(by cases h)⟩
def EN {S:tG}(f:∀k lo hi L q,S k lo hi L q->CE lo hi L){m:bo}{lo:bY}{hi:Option bY}(b:m.leaf=false)(e:∀c∈m.cells,c.ok false)(d:∀k∈m.kids,k<=rB)(h:cq S m.kids m.fe lo hi L q):m.ok:=by
 obtain⟨_,_,a⟩:=h.facts f;refine⟨by rw[b];exact e,?_,?_,d⟩
 .unfold bo.fe at a;rw[aJT]at a;exact a
 .rw[b,aHM xI,h.len,kP]
def iL (leaf:Bool)(l:List dq)(i:Nat):(cW leaf (l.take i)).length+(cW leaf (l.drop i)).length=(cW leaf l).length:=by
 rw[<-aHR,<-eC,aIA]
def sh (l:List Nat)(i:Nat):(eS (l.take i)).length+(eS (l.drop i)).length=(eS l).length:=by
 rw[<-aHR,<-jg,aIA]
def TS (m:Nat):(uv (m+1)).length<=(uv m).length+1:=by
 induction m using Nat.strongRecOn with
 |_ n a=>
  by_cases b:127<n
  .rw[jb b,jb (n:=n+1) uM,aIg,aIg];have d:=a (n/128) uM;have c:(uv ((n+1)/128)).length<=(uv (n/128+1)).length:=wh uM;omega
  .have:(uv (n+1)).length<=2:=re uM;rw[eR (n:=n) uM];omega
def Nz (c:n.leaf=false)(hi:i<=n.cells.length)(a:s.length<=48)(b:r<=rB):(more n i s r).size<=n.size+55:=by
 rw[cr,cr,c];have h1:=iL false n.cells i;have h2:=sh n.kids (i+1);have g:=(jv (tN a)).2.2 rfl;have f:=(kF r b).2;have d:=TS n.cells.length;have e:(more n i s r).cells.length=n.cells.length+1:=by unfold more;simp;omega
 rw[e];unfold more;simp only[aHH,aHV,eC,fy,jg,oV,aHR];omega
def M4 {G g:GM}{d:db}{l:List db}{h page:Nat}{lo:bY}{hi:Option bY}{Ll Lr:List aW}{ps:List Nat}{a b:bo}(f:Ctx G h (d::l) page lo hi Ll Lr ps)(hG:uK G)(V:G.bW page)(X:n.ok)(H:BE n a b i s)(lR:we G h n lo hi L q)(M:(page::(q++ps)).Nodup)
 (p:IZ (G.put page (.node a)) b g r):d.at_<=d.n.cells.length/\d.n.leaf=false/\(more d.n d.at_ s r).ok/\(more d.n d.at_ s r).size<=600/\g.bW d.page/\
  ∃w y z A L' j T,Ctx g (h+1) l d.page w y z A j/\we g (h+1) (more d.n d.at_ s r) w y L' T/\(d.page::(T++j)).Nodup/\z++(L'++A)=Ll++(L++Lr):=by
 obtain⟨w,y,z,A,j,Q,o,Lb,v,d1,u,I,d4,P,Z,rfl,rfl,rfl⟩:=f;obtain⟨S,q1,R,q2,c1,c2,rfl,rfl⟩:=lR.cut X H;obtain⟨lI,_⟩:=aHW.1 d4;have rE:=u.ok.jR;rw[I,aHM xI]at rE;have FW:d.at_<=d.n.cells.length:=uM
 have Cn:s.length<=48:=by rw[H.key];exact(X.cell _ (aIc ..)).key
 have E:=sG p.ok p.is.bW;have C:∀x,G.bW x->x≠r:=λx hx e=>p.not (e▸hx)
 have B:∀x,x∈o\/x∈v\/x∈j\/x=d.page->G.bW x:=λx hx=>by
  have N:=Ctx.aE (l:=d::l) (page:=page) (h:=h) ⟨w,y,z,A,j,Q,o,Lb,v,d1,u,I,d4,P,Z,rfl,rfl,rfl⟩;refine N x ?_;simp only[aHJ,aHT];rcases hx with h|h|h|h<;>simp[h]
 have HG:=M;simp only[aHX,aHT,aHJ,aJf,aIE]at M;obtain⟨⟨⟨y1,y2⟩,y3,y4,y5,y6⟩,⟨y7,y8,y9⟩,⟨⟨z1,z2,z3⟩,z4,⟨z5,z6,z7⟩,z8⟩,z9⟩:=M;have kp:=λps x1 x2=>(lZ x1).trans (p.kept ps x2)
 have J:Kept G g (d.page::(o++(v++j))):=kp _ (by simp only[aHJ,aHT,aJf];exact⟨y3,y4,y5,y6⟩) (λW=>by
  simp only[aHJ,aHT]at W;refine C r (B r ?_) rfl;rcases W with h|h|h|h<;>simp[h])
 have RY:a.leaf=true\/a.cells≠[]:=.inr H.neA;have F:r∉q1:=λhh=>C r (c1.aE r hh) rfl;have FU:r∉q2:=λhh=>C r (c2.aE r hh) rfl;have D:r≠page:=λe=>C page V e.symm;have sa:Sub g h page lo (some s) S (page::q1):=⟨a,q1,nP.kept (G:=G.put page (.node a)) ⟨V,mS _ _ _,H.Nu,H.szA,RY⟩ (p.kept _ (by simpa using D)),c1.kept (kp _ y1 F),rfl⟩;have sb:Sub g h r s hi R (r::q2):=⟨b,q2,p.is,c2.kept (kp _ y2 FU),rfl⟩;have Z9:=cq.cons.2 ⟨S,_,R,_,sa,cq.one.2 ⟨rfl,sb⟩,rfl,rfl⟩;have ka:=P.mono (S':=Sub g h) λ_ _ _ _ qq hq O=>O.kept (J.sub λx hx=>aaY);have kb:=Z.mono (S':=Sub g h) λ_ _ _ _ qq hq O=>O.kept (J.sub λx hx=>aaY);have px:d.n.kids.take (d.at_+1)=d.n.kids.take d.at_++[page]:=by rw[aIa lI];congr 2
 have Y:cq (Sub g h) (more d.n d.at_ s r).kids (more d.n d.at_ s r).fe w y (Q++((S++R)++Lb)) (o++(((page::q1)++(r::q2))++v)):=by
  rw[NA]
  have e:(more d.n d.at_ s r).kids=d.n.kids.take d.at_++([page,r]++d.n.kids.drop (d.at_+1)):=by
   show d.n.kids.take (d.at_+1)++r::_=_;rw[px];simp
  rw[e];exact(cq.split P.len).2 ⟨lo,Q,o,_,_,ka,Z9.RP kb,rfl,rfl⟩
 have lG:(more d.n d.at_ s r).ok:=by
  refine EN Sub.tm rfl (λc f=>?_) (λk m=>?_) Y
  .have f:c∈d.n.cells.take d.at_++fO s::d.n.cells.drop d.at_:=f;have U:∀c∈d.n.cells,c.ok false:=by have:=u.ok.cell;rw[I]at this;exact this
   rcases aHT.1 f with f|f
   .exact U c (aIw f)
   .rcases aHJ.1 f with rfl|f
    .exact tN Cn
    .exact U c (aID f)
  .have m:k∈d.n.kids.take (d.at_+1)++r::d.n.kids.drop (d.at_+1):=m;rcases aHT.1 m with m|m
   .exact u.ok.Dl k (aIw m)
   .rcases aHJ.1 m with rfl|m
    .exact E
    .exact u.ok.Dl k (aID m)
 refine⟨FW,I,lG,?_,J d.page (by simp)|>.1 u.bW,w,y,z,A,_,j,_,Ctx.kept (G:=G) p.root d1 (J.sub λx hx=>aba),⟨rfl,Y⟩,?_,wb⟩
 .have:=Nz I FW Cn E (n:=d.n);have:=u.size;omega
 .have K:=λx hx=>C x (B x hx)
  have hP:(d.page::((o++(((page::q1)++(r::q2))++v))++j)).Perm (r::(page::((q1++q2)++(d.page::(o++(v++j)))))):=by
   refine(aJE.2 λx=>?_);simp only[aJM,aJZ];omega
  refine hP.nodup_iff.2 (aHX.2 ⟨?_,HG⟩);simp only[aHJ,aHT,aJf];exact⟨D,⟨F,FU⟩,λe=>K _ (.inr (.inr (.inr rfl))) e.symm,λh=>K _ (.inl h) rfl,λh=>K _ (.inr (.inl h)) rfl,λh=>K _ (.inr (.inr (.inl h))) rfl⟩
end
section
variable {l:List db}{i:Nat}{G:GM}{sm:db}{h:Nat}{Ll Lr L:List aW}{ps q:List Nat}{n:bo}{left:Nat}{first second:bo}{sep:bY}{pf pn:Nat}{LL:List aW}
structure ux where
 lQ:bY
 eT:Option bY
 zN:List aW
 zM:List aW
 ql:List Nat
 La:List aW
 pa:List Nat
 Lb:List aW
 pb:List Nat
 Ka:bY
 yV:Option bY
 L1:List aW
 q1:List Nat
 L2:List aW
 q2:List Nat
structure vY (G:GM)(h:Nat)(sm:db)(l:List db)(left:Nat)(first second:bo)(sep:bY)(pf pn:Nat)(LL:List aW)(aE:List Nat)(d:ux):Prop where
 ctx:Ctx G (h+1) l sm.page d.lQ d.eT d.zN d.zM d.ql
 node:nP G sm.page sm.n
 inner:sm.n.leaf=false
 QA:sm.n.kids[left]?=some pf
 US:sm.n.kids[left+1]?=some pn
 aoh:sm.n.fe[left]?=some sep
 kl:BD (Sub G h) (sm.n.kids.take left) (sm.n.fe.take left) d.lQ d.Ka d.La d.pa
 c1:we G h first d.Ka (some sep) d.L1 d.q1
 c2:we G h second sep d.yV d.L2 d.q2
 kr:O2 (Sub G h) (sm.n.kids.drop (left+2)) (sm.n.fe.drop (left+1)) d.yV d.eT d.Lb d.pb
 total:d.zN++((d.La++((d.L1++d.L2)++d.Lb))++d.zM)=LL
 perm:(pf::pn::((d.q1++d.q2)++(sm.page::(d.pa++(d.pb++d.ql))))).Perm aE
 u1:G.bW pf
 u2:G.bW pn
 ok1:first.ok
 ok2:second.ok
def DF {a:Type}{l:List a}{x:a}{r:List a}(h:l.drop i=x::r):l[i]?=some x/\l.drop (i+1)=r:=by
 have hi:i<l.length:=by
  rcases aIX i l.length with h2|h2
  .exact h2
  .rw[aIp h2]at h;cases h
 rw[aIe hi]at h;simp only[aJl]at h;exact⟨by rw[aHO hi,h.1],h.2⟩
def M6 {page:Nat}{lo:bY}{hi:Option bY}(H:Ctx G h (sm::l) page lo hi Ll Lr ps)(E:G.bW page)(F:n.ok)(A:we G h n lo hi L q)(C:sm.at_+1<sm.n.kids.length):
 ∃a pn sep d,nP G pn a/\vY G h sm l sm.at_ n a sep page pn (Ll++(L++Lr)) (page::(q++ps)) d:=by
 obtain⟨B,O,m,o,v,V,w,Lb,pb,U,j,g,T,S,f,rfl,rfl,rfl⟩:=H;have p:=j.ok.jR;rw[g,aHM xI]at p;obtain⟨D,Z,e⟩:∃k r,sm.n.kids.drop (sm.at_+1)=k::r:=⟨_,_,aIe C⟩;obtain⟨s2,Y,c⟩:∃s t,sm.n.fe.drop sm.at_=s::t:=⟨_,_,aIe (by rw[kP];omega)⟩;rw[e,c]at f;obtain⟨rfl,R⟩:=f;obtain⟨z,X,p1,W,y,Q,P,rfl,rfl⟩:=cq.focus.1 R;obtain⟨a,u,b,N,rfl⟩:=Q;obtain⟨M,K⟩:=DF e;obtain⟨J,I⟩:=DF c;refine⟨a,D,s2,⟨B,O,m,o,v,V,w,W,y,lo,z,L,q,X,u⟩,b,⟨U,j,g,T,M,J,S,A,N,by rw[K,I];exact P,wb,?_,E,b.bW,F,b.ok⟩⟩;refine(aJE.2 λx=>?_);simp only[aJM,aJZ];omega
def PD {page:Nat}{lo:bY}{hi:Option bY}{b:Nat}(H:Ctx G h (sm::l) page lo hi Ll Lr ps)(E:G.bW page)(F:n.ok)(B:we G h n lo hi L q)(D:sm.at_=b+1):
 ∃a pf sep d,nP G pf a/\vY G h sm l b a n sep pf page (Ll++(L++Lr)) (page::(q++ps)) d:=by
 obtain⟨C,J,s,u,y,X,T,Q,z,P,p,o,f,e,k,rfl,rfl,rfl⟩:=H;have v:=p.ok.jR;rw[o,aHM xI]at v;obtain⟨g,_⟩:=aHW.1 f;rw[D]at f e k g;have j:b<sm.n.kids.length:=uM
 have r:b<sm.n.fe.length:=by rw[kP];omega
 rw[aIa j,aIa r]at e;obtain⟨m,S,A,Z,W,O,N,rfl,rfl⟩:=(BD.append (by rw[aHZ,aHZ];omega)).1 e;obtain⟨R,V,Y,U,M,⟨K,rfl,rfl⟩,rfl,rfl⟩:=N;subst K;obtain⟨a,w,c,I,rfl⟩:=M;refine⟨a,sm.n.kids[b],sm.n.fe[b],⟨C,J,s,u,y,S,A,Q,z,m,hi,R,w,L,q⟩,c,⟨P,p,o,aHO j,f,aHO r,O,I,B,k,wb,?_,c.bW,E,c.ok,F⟩⟩;refine(aJE.2 λx=>?_);simp only[aJM,aJZ,List.count_nil];omega
def uD (n:bo)(i:Nat):bo:=⟨false,n.cells.take i++n.cells.drop (i+1),n.kids.take (i+1)++n.kids.drop (i+2)⟩
def jM (n:bo)(i:Nat)(s:bY):bo:=⟨false,n.cells.take i++fO s::n.cells.drop (i+1),n.kids⟩
structure CD (G:GM)(h:Nat)(page:Nat)(l:List db)(m:bo)(LL:List aW):Prop where
 ok:uK G
 bW:G.bW page
 ON:m.ok
 ctx:∃lo hi Ll Lr L ps q,Ctx G h l page lo hi Ll Lr ps/\we G h m lo hi L q/\(page::(q++ps)).Nodup/\Ll++(L++Lr)=LL
def vT {f:List Nat}{d:ux}(b:vY G h sm l left first second sep pf pn LL f d):sep.length<=48/\left<sm.n.cells.length/\sm.n.kids.length=sm.n.cells.length+1/\∃c,sm.n.cells[left]?=some c/\c.key=sep:=by
 have hs:=b.aoh;unfold bo.fe at hs;rw[aIu]at hs;have a:=b.node.ok.jR;rw[b.inner,aHM xI]at a;cases hc:sm.n.cells[left]? with
 |none=>rw[hc]at hs;cases hs
 |some c=>
  rw[hc]at hs;have:c.key=sep:=aJX hs;obtain⟨e,g⟩:=aHW.1 hc;exact⟨by rw[<-this];exact(b.node.ok.cell c (aII hc)).key,e,a,c,rfl,this⟩
def IE {y:List Nat}{d:ux}(b:vY G h sm l left first second sep pf pn LL y d)(U:uK G)(N:y.Nodup)(R:(dx first sep second).size<=512):
 (G.put pf (.node (dx first sep second))).bW pn/\CD ((G.put pf (.node (dx first sep second))).drop pn) (h+1) sm.page l (uD sm.n left) LL/\(uD sm.n left).size<=512/\((G.put pf (.node (dx first sep second))).drop pn).cD=G.cD+1:=by
 obtain⟨o,S,rE,c,f,Z⟩:=vT b;obtain⟨P,O,j3⟩:=b.c1.join b.c2 b.ok1 b.ok2 o;have z:=b.perm.nodup_iff.2 N;have s:=z;simp only[aHX,aHT,aHJ,aJf,aIE]at s;obtain⟨⟨E,⟨D,C⟩,x4,x5,x6,x7⟩,⟨⟨B,A⟩,dn,dg,dm,dt⟩,-⟩:=s;have m:=rO (U.put pf (.node (dx first sep second))) (show(G.put pf _).bW pn from b.u2)
 have M:(dx first sep second).leaf=true\/(dx first sep second).cells≠[]:=by
  unfold dx;split
  .exact .inl rfl
  .exact .inr wb
 have u:∀ps,pf∉ps->pn∉ps->Kept G ((G.put pf (.node (dx first sep second))).drop pn) ps:=λps a b q hq=>⟨λQ=>(m.bW q).2 ⟨Q,λe=>b (e▸hq)⟩,JJ _ _ _ _ λe=>a (e▸hq)⟩;have V:pf≠pn:=E
 have F:Sub ((G.put pf (.node (dx first sep second))).drop pn) h pf d.Ka d.yV (d.L1++d.L2) (pf::(d.q1++d.q2)):=
  ⟨_,_,⟨(m.bW pf).2 ⟨b.u1,V⟩,mS _ _ _,O,R,M⟩,P.kept (u _ (by simp;exact⟨D,C⟩) (by simp;exact⟨B,A⟩)),rfl⟩
 have j:Kept G ((G.put pf (.node (dx first sep second))).drop pn) (sm.page::(d.pa++(d.pb++d.ql))):=u _ ade adf;have K:=b.kl.mono (S':=Sub ((G.put pf (.node (dx first sep second))).drop pn) h) λ_ _ _ _ H hq p=>p.kept (j.sub λx hx=>aaY);have J:=b.kr.mono (S':=Sub ((G.put pf (.node (dx first sep second))).drop pn) h) λ_ _ _ _ H hq p=>p.kept (j.sub λx hx=>aaY);obtain⟨I,r⟩:=aHW.1 b.QA
 have w:cq (Sub ((G.put pf (.node (dx first sep second))).drop pn) h) (uD sm.n left).kids (uD sm.n left).fe d.lQ d.eT (d.La++((d.L1++d.L2)++d.Lb)) (d.pa++((pf::(d.q1++d.q2))++d.pb)):=by
  have X:(uD sm.n left).fe=sm.n.fe.take left++([]++sm.n.fe.drop (left+1)):=by unfold bo.fe uD;simp[aJI,aJs]
  have W:(uD sm.n left).kids=sm.n.kids.take left++([pf]++sm.n.kids.drop (left+2)):=by
   show sm.n.kids.take (left+1)++_=_;rw[aIa I,r];simp
  rw[X,W];exact(cq.split b.kl.len).2 ⟨d.Ka,d.La,d.pa,_,_,K,cq.RP (cq.one.2 ⟨rfl,F⟩) J,rfl,rfl⟩
 have v:∀c∈sm.n.cells,c.ok false:=acC
 have Y:(uD sm.n left).ok:=by
  refine EN Sub.tm rfl (λc f=>?_) (λk g=>?_) w
  .have f:c∈sm.n.cells.take left++sm.n.cells.drop (left+1):=f;rcases aHT.1 f with f|f
   .exact v c (aIw f)
   .exact v c (aID f)
  .have g:k∈sm.n.kids.take (left+1)++sm.n.kids.drop (left+2):=g;rcases aHT.1 g with g|g
   .exact b.node.ok.Dl k (aIw g)
   .exact b.node.ok.Dl k (aID g)
 refine⟨b.u2,⟨m.ok,(j sm.page wb).1 b.node.bW,Y,d.lQ,d.eT,d.zN,d.zM,_,d.ql,_,Ctx.kept (G:=G) (G':=(G.put pf (.node (dx first sep second))).drop pn) rfl b.ctx (j.sub λx hx=>aba),⟨rfl,w⟩,?_,b.total⟩,?_,m.free⟩
 .have T:(pn::(sm.page::((d.pa++((pf::(d.q1++d.q2))++d.pb))++d.ql))).Perm (pf::pn::((d.q1++d.q2)++(sm.page::(d.pa++(d.pb++d.ql))))):=by
   refine(aJE.2 λx=>?_);simp only[aJM,aJZ];omega
  exact(aHX.1 (T.nodup_iff.2 z)).2
 .have:=b.node.size;rw[cr,b.inner]at this;rw[cr];have h1:=iL false sm.n.cells left
  have h2:(cW false (sm.n.cells.drop (left+1))).length<=(cW false (sm.n.cells.drop left)).length:=by
   rw[aIe S,fy,aHR];omega
  have h3:=sh sm.n.kids (left+1)
  have h4:(eS (sm.n.kids.drop (left+2))).length<=(eS (sm.n.kids.drop (left+1))).length:=by
   rw[aIe (show left+1<sm.n.kids.length from uM)];show _<=(eS (_::sm.n.kids.drop (left+2))).length;rw[oV,aHR];omega
  have e:(uD sm.n left).cells.length=sm.n.cells.length-1:=by unfold uD;simp;omega
  have h5:(uv (sm.n.cells.length-1)).length<=(uv sm.n.cells.length).length:=wh uM;rw[e];unfold uD;simp only[aHH,aHV,eC,jg,aHR]at this⊢;omega
def FF {E:List Nat}{d:ux}(b:vY G h sm l left first second sep pf pn LL E d)(hG:uK G)(X:E.Nodup){a c:bo}{s:bY}(H:BE (dx first sep second) a c i s):
 CD ((G.put pf (.node a)).put pn (.node c)) (h+1) sm.page l (jM sm.n left s) LL/\(jM sm.n left s).size<=600/\(G.put pf (.node a)).bW pn/\((G.put pf (.node a)).put pn (.node c)).cD=G.cD:=by
 obtain⟨o,Z,rE,c0,NZ,vO⟩:=vT b;obtain⟨Y,B,j3⟩:=b.c1.join b.c2 b.ok1 b.ok2 o;have F:s.length<=48:=by rw[H.key];exact(B.cell _ (aIc ..)).key
 obtain⟨y,j,w,g,c1,c2,eL,eq⟩:=Y.cut B H;have z:=b.perm.nodup_iff.2 X;rw[eq]at z;have A:=z;simp only[aHX,aHT,aHJ,aJf,aIE]at A;obtain⟨⟨P,⟨O,N⟩,x4,x5,x6,x7⟩,⟨⟨M,K⟩,dn,dg,dm,dt⟩,-⟩:=A;have p:∀ps,pf∉ps->pn∉ps->Kept G ((G.put pf (.node a)).put pn (.node c)) ps:=λps J I=>(lZ J).trans (lZ I)
 have R:Sub ((G.put pf (.node a)).put pn (.node c)) h pf d.Ka (some s) y (pf::j):=
  ⟨a,j,⟨b.u1,(JJ _ _ _ _ P).trans (mS _ _ _),H.Nu,H.szA,.inr H.neA⟩,c1.kept (p _ O M),rfl⟩
 have Q:Sub ((G.put pf (.node a)).put pn (.node c)) h pn s d.yV w (pn::g):=
  ⟨c,g,⟨b.u2,mS _ _ _,H.okB,H.szB,.inr H.neB⟩,c2.kept (p _ N K),rfl⟩
 have m:Kept G ((G.put pf (.node a)).put pn (.node c)) (sm.page::(d.pa++(d.pb++d.ql))):=p _ ade adf;have W:=b.kl.mono (S':=Sub ((G.put pf (.node a)).put pn (.node c)) h) λ_ _ _ _ S hq r=>r.kept (m.sub λx hx=>aaY);have V:=b.kr.mono (S':=Sub ((G.put pf (.node a)).put pn (.node c)) h) λ_ _ _ _ S hq r=>r.kept (m.sub λx hx=>aaY);obtain⟨U,v⟩:=aHW.1 b.QA;obtain⟨T,u⟩:=aHW.1 b.US
 have D:cq (Sub ((G.put pf (.node a)).put pn (.node c)) h) (jM sm.n left s).kids (jM sm.n left s).fe d.lQ d.eT (d.La++((y++w)++d.Lb)) (d.pa++(((pf::j)++(pn::g))++d.pb)):=by
  have e1:(jM sm.n left s).fe=sm.n.fe.take left++([s]++sm.n.fe.drop (left+1)):=by unfold bo.fe jM;simp[fO,aJI,aJs]
  have e2:(jM sm.n left s).kids=sm.n.kids.take left++([pf,pn]++sm.n.kids.drop (left+2)):=by
   show sm.n.kids=_
   conv=>lhs;rw[<-aIA left sm.n.kids,aIe U,aIe T,v,u]
   rfl
  rw[e1,e2];exact(cq.split b.kl.len).2 ⟨d.Ka,d.La,d.pa,_,_,W,cq.RP (cq.cons.2 ⟨y,_,w,_,R,cq.one.2 ⟨rfl,Q⟩,rfl,rfl⟩) V,rfl,rfl⟩
 have C:∀c∈sm.n.cells,c.ok false:=acC
 have Z8:(jM sm.n left s).ok:=by
  refine EN Sub.tm rfl (λc f=>?_) (λk hk=>b.node.ok.Dl k hk) D;have f:c∈sm.n.cells.take left++fO s::sm.n.cells.drop (left+1):=f;rcases aHT.1 f with f|f
  .exact C c (aIw f)
  .rcases aHJ.1 f with rfl|f
   .exact tN F
   .exact C c (aID f)
 refine⟨⟨(hG.put _ _).put _ _,(m sm.page wb).1 b.node.bW,Z8,d.lQ,d.eT,d.zN,d.zM,_,d.ql,_,Ctx.kept (G:=G) (G':=(G.put pf (.node a)).put pn (.node c)) rfl b.ctx (m.sub λx hx=>aba),⟨rfl,D⟩,?_,by rw[<-eL];exact b.total⟩,?_,b.u2,rfl⟩
 .have hP:(sm.page::((d.pa++(((pf::j)++(pn::g))++d.pb))++d.ql)).Perm (pf::pn::((j++g)++(sm.page::(d.pa++(d.pb++d.ql))))):=by
   refine(aJE.2 λx=>?_);simp only[aJM,aJZ];omega
  exact hP.nodup_iff.2 z
 .have:=b.node.size;rw[cr,b.inner]at this;rw[cr];have h1:=iL false sm.n.cells left
  have h2:(cW false (sm.n.cells.drop (left+1))).length<=(cW false (sm.n.cells.drop left)).length:=by
   rw[aIe Z,fy,aHR];omega
  have h3:=(jv (tN F)).2.2 rfl;have e:(jM sm.n left s).cells.length=sm.n.cells.length:=by unfold jM;simp;omega
  rw[e];unfold jM;simp only[aHH,aHV,eC,fy,aHR]at this⊢;omega
end
section
variable {p:aW->Bool}{A B:List aW}{v:List UInt8}
def nt (L:List aW)(key:bY)(v:List UInt8):List aW:=L.filter (λx=>decide (dO x.1 key))++(key,v)::L.filter (λx=>decide (dO key x.1))
def pz (L:List aW)(key:bY):List aW:=L.filter (λx=>decide (dO x.1 key))++L.filter (λx=>decide (dO key x.1))
def iE (L:List aW)(key:bY):Option (List UInt8):=(L.find? λx=>decide (x.1=key)).map (·.2)
def Bh {L:List aW}(h:∀x∈L,p x=true):L.filter p=L:=List.filter_eq_self.2 h
def tl {L:List aW}(h:∀x∈L,p x=false):L.filter p=[]:=aKA.2 λx a=>by simp[h x a]
def AH {key:bY}(c:∀x∈A,dO x.1 key)(b:∀x∈B,dO key x.1):(A++B).filter (λx=>decide (dO x.1 key))=A/\(A++B).filter (λx=>decide (dO key x.1))=B:=by
 rw[aJt,aJt];refine⟨?_,?_⟩
 .rw[Bh λx a=>by simpa using c x a,tl λx a=>by simpa using ju (b x a),aIJ]
 .rw[tl λx a=>by simpa using ju (c x a),Bh λx a=>by simpa using b x a,aIm]
def wS {key:bY}(c:∀x∈A,dO x.1 key)(b:∀x∈B,dO key x.1):(A++(key,v)::B).filter (λx=>decide (dO x.1 key))=A/\(A++(key,v)::B).filter (λx=>decide (dO key x.1))=B:=by
 have a:decide (dO key key)=false:=by simpa using jf key
 rw[aJt,aJt,aJa,aJa];simp only[a,aHH,aHV];rw[<-aJt,<-aJt];exact AH c b
def P3 {key:bY}(b:∀x∈A,dO x.1 key)(a:∀x∈B,dO key x.1):nt (A++B) key v=A++(key,v)::B:=by
 unfold nt;obtain⟨d,c⟩:=AH b a;rw[d,c]
def PZ {key:bY}{w:List UInt8}(b:∀x∈A,dO x.1 key)(a:∀x∈B,dO key x.1):nt (A++(key,w)::B) key v=A++(key,v)::B:=by
 unfold nt;obtain⟨d,c⟩:=wS (v:=w) b a;rw[d,c]
def Sm {key:bY}{w:List UInt8}(b:∀x∈A,dO x.1 key)(a:∀x∈B,dO key x.1):pz (A++(key,w)::B) key=A++B:=by
 unfold pz;obtain⟨d,c⟩:=wS (v:=w) b a;rw[d,c]
def Sn {key:bY}(b:∀x∈A,dO x.1 key)(a:∀x∈B,dO key x.1):pz (A++B) key=A++B:=by
 unfold pz;obtain⟨d,c⟩:=AH b a;rw[d,c]
def Ig {key:bY}{w:List UInt8}(b:∀x∈A,dO x.1 key):iE (A++(key,w)::B) key=some w:=by
 unfold iE;rw[aKJ]
 have:A.find? (λx=>decide (x.1=key))=none:=by
  rw[List.find?_eq_none];intro x a;simpa using (b x a).ne
 rw[this];simp
def RS {key:bY}(c:∀x∈A,dO x.1 key)(b:∀x∈B,dO key x.1):iE (A++B) key=none:=by
 unfold iE
 have:(A++B).find? (λx=>decide (x.1=key))=none:=by
  rw[List.find?_eq_none];intro x a;rcases aHT.1 a with a|a
  .simpa using (c x a).ne
  .simpa using aIG (b x a).ne
 rw[this];rfl
def vX (G:GM)(key:bY)(f:db)(rest:List db)(L:List aW):Prop:=
 ∃lo hi Ll Lr Lm ps q,Ctx G 0 rest f.page lo hi Ll Lr ps/\nP G f.page f.n/\we G 0 f.n lo hi Lm q/\lj lo key/\ET key hi/\(f.page::(q++ps)).Nodup/\Ll++(Lm++Lr)=L/\f.at_=f.n.find key
structure pk (G:GM)(key:bY)(f:db)(rest:List db)(L:List aW)(lo:bY)(hi:Option bY)(Ll Lr:List aW)(ps:List Nat)(Lt:List aW)(pt:List Nat)(Ld:List aW)(pd:List Nat):Prop where
 ctx:Ctx G 0 rest f.page lo hi Ll Lr ps
 node:nP G f.page f.n
 leaf:f.n.leaf=true
 lt:ET lo hi
 klo:lj lo key
 khi:ET key hi
 nd:(f.page::((pt++pd)++ps)).Nodup
 total:Ll++((Lt++Ld)++Lr)=L
 at_:f.at_=f.n.find key
 le:f.at_<=f.n.cells.length
 cl:fx G (f.n.cells.take f.at_) Lt pt
 cd:fx G (f.n.cells.drop f.at_) Ld pd
 FE:∀c∈f.n.cells,lj lo c.key/\ET c.key hi
 kt:∀x∈Lt,dO x.1 key
 kd:∀x∈Ld,lj key x.1
 kl:∀x∈Ll,dO x.1 key
 kr:∀x∈Lr,dO key x.1
def UO {key:bY}{hi:Option bY}{k:bY}(h:ET key hi)(a:leh hi k):dO key k:=by
 cases hi with
 |none=>exact a.elim
 |some m=>have h:dO key m:=h;exact h.kO a
def pQ {G:GM}{cs:List dq}{L:List aW}{ps:List Nat}(h:fx G cs L ps){x:aW}(a:x∈L):∃c∈cs,c.key=x.1:=by
 have:x.1∈cs.map (·.key):=by rw[<-h.keys];exact aIW a
 obtain⟨c,b,e⟩:=aIk.1 this;exact⟨c,b,e⟩
def vX.EX {G:GM}{key:bY}{f:db}{rest:List db}{L:List aW}(h:vX G key f rest L):∃lo hi Ll Lr ps Lt pt Ld pd,pk G key f rest L lo hi Ll Lr ps Lt pt Ld pd:=by
 obtain⟨lo,hi,Ll,Lr,Lm,ps,q,j,i,⟨D,C,s,z⟩,g,d,y,w,b⟩:=h;obtain⟨m,l,k⟩:=rL i.ok.sorted key;rw[<-b]at m l k;rw[<-aIA f.at_ f.n.cells]at s;obtain⟨Lt,pt,Ld,pd,r,o,rfl,rfl⟩:=fx.append.1 s;obtain⟨u,s2⟩:=j.aez;refine⟨lo,hi,Ll,Lr,ps,Lt,pt,Ld,pd,j,i,D,C,g,d,y,w,b,m,r,o,z,λx a=>?_,λx a=>?_,λx a=>(u x a).kO g,λx a=>UO d (s2 x a)⟩
 .obtain⟨c,hc,e⟩:=pQ r a;rw[<-e];exact l c hc
 .obtain⟨c,hc,e⟩:=pQ o a;rw[<-e];exact k c hc
section
variable {G:GM} {key:bY} {f:db} {rest:List db} {L:List aW} {lo:bY} {hi:Option bY} {Ll Lr:List aW} {ps:List Nat} {Lt:List aW} {pt:List Nat} {Ld:List aW} {pd:List Nat}
def pk.found (h:pk G key f rest L lo hi Ll Lr ps Lt pt Ld pd){c:dq}(r:f.n.cells[f.at_]?=some c)(j:c.key=key):∃w po d i,Bx G c w po/\fx G (f.n.cells.drop (f.at_+1)) d i/\Ld=(key,w)::d/\pd=po++i/\(∀x∈d,dO key x.1)/\iE L key=some w:=by
 obtain⟨l,k⟩:=aHW.1 r;have m:=h.cd;rw[aIe l,k]at m;obtain⟨w,po,d,i,a,b,rfl,rfl⟩:=m
 have o:∀x∈d,dO key x.1:=λx g=>by
  obtain⟨s,q,e⟩:=pQ b g;have:=(vo h.node.ok.sorted l).2.2 s q;rw[k,j]at this;rw[<-e];exact this
 refine⟨w,po,d,i,a,b,by rw[j],rfl,o,?_⟩;rw[<-h.total];have e:Ll++((Lt++(c.key,w)::d)++Lr)=(Ll++Lt)++(key,w)::(d++Lr):=by rw[j];simp
 rw[e]
 exact Ig λx g=>by
  rcases aHT.1 g with g|g
  .exact h.kl x g
  .exact h.kt x g
def pk.Hr (h:pk G key f rest L lo hi Ll Lr ps Lt pt Ld pd)(l:∀c,f.n.cells[f.at_]?=some c->c.key≠key):(∀x∈Ld,dO key x.1)/\iE L key=none/\pz L key=L:=by
 have g:∀x∈Ld,dO key x.1:=λx a=>by
  rcases pR.1 (h.kd x a)with h1|h1
  .exact h1
  .obtain⟨c',b,e⟩:=pQ h.cd a
   have d:f.at_<f.n.cells.length:=by
    rcases aIX f.at_ f.n.cells.length with h|h
    .exact h
    .rw[aIp h]at b;cases b
   rw[aIe d]at b;rcases aHJ.1 b with m|b
   .exact absurd (by rw[<-m,e,h1]) (l _ (aHO d))
   .have a1:=(vo h.node.ok.sorted d).2.2 c' b;rw[e,<-h1]at a1
    have o:lj key f.n.cells[f.at_].key:=by
     obtain⟨_,_,k⟩:=rL h.node.ok.sorted key;rw[<-h.at_]at k;exact k _ (by rw[aIe d];exact aIO)
    exact absurd a1 o
 have e:L=(Ll++Lt)++(Ld++Lr):=by rw[<-h.total];simp
 have j:∀x∈Ll++Lt,dO x.1 key:=λx a=>by
  rcases aHT.1 a with a|a
  .exact h.kl x a
  .exact h.kt x a
 have i:∀x∈Ld++Lr,dO key x.1:=λx a=>by
  rcases aHT.1 a with a|a
  .exact g x a
  .exact h.kr x a
 rw[e];exact⟨g,RS j i,Sn j i⟩
def fq (l:List dq):bo:=⟨true,l,[]⟩
def Dh {r:GM}(h:pk G key f rest L lo hi Ll Lr ps Lt pt Ld pd)(Q:uK r)(V:r.root=G.root){cm:List dq}{Lm:List aW}{pm:List Nat}{k:Nat}{s:List aW}{po j:List Nat}(z:fx G (f.n.cells.drop (f.at_+k)) s j)(U:pd=po++j)
 (w:∀F,(∀x∈F,G.bW x/\x∉po)->Kept G r F) (C:fx r cm Lm pm) (q:∀c∈cm,c.key=key/\c.ok true) (W:cm.length<=1) (y:pm.Nodup) (O:∀x∈pm,¬(G.bW x/\x∉po)) (J:∀x∈s,dO key x.1):
 CD r 0 f.page rest (fq (f.n.cells.take f.at_++(cm++f.n.cells.drop (f.at_+k)))) (Ll++((Lt++(Lm++s))++Lr)):=by
 subst U;have H:=h.nd
 have m:∀x∈pt++(j++(f.page::ps)),G.bW x/\x∉po:=λx hx=>by
  have u:=H;simp only[aHX,aHT,aJf,aIE]at u;obtain⟨⟨⟨n1,N,n3⟩,n4⟩,⟨Z,⟨Y,X,M⟩,K⟩,I4,T⟩:=u;simp only[aHT,aHJ]at hx;rcases hx with hx|hx|rfl|hx
  .exact⟨h.cl.aE x hx,λh=>K x hx x (.inl h) rfl⟩
  .exact⟨z.aE x hx,λh=>M x h x hx rfl⟩
  .exact⟨h.node.bW,N⟩
  .exact⟨h.ctx.aE x hx,λh=>T x (.inr (.inl h)) x hx rfl⟩
 have I:∀c∈f.n.cells,c.ok true:=by have:=h.node.ok.cell;rw[h.leaf]at this;exact this
 obtain⟨S,D,R⟩:=rL h.node.ok.sorted key;rw[<-h.at_]at S D R
 have o:∀c∈f.n.cells.drop (f.at_+k),dO key c.key:=λc g=>by
  have:c.key∈(f.n.cells.drop (f.at_+k)).map (·.key):=aIW g;rw[<-z.keys]at this;obtain⟨x,hx,e⟩:=aIk.1 this;rw[<-e];exact J x hx
 have HP:key.length<=48\/cm=[]:=by
  cases cm with
  |nil=>exact .inr rfl
  |cons c cm=>left;obtain⟨a,b⟩:=q c wb;rw[<-a];exact b.key
 refine⟨Q,(w [f.page] (λx hx=>m x aeq) f.page wb).1 h.node.bW,⟨λc g=>?_,?_,rfl,by simp[fq]⟩,lo,hi,Ll,Lr,_,ps,pt++(pm++j),Ctx.kept (G:=G) V h.ctx (w ps λx hx=>m x aba),⟨rfl,h.lt,?_,λc g=>?_⟩,?_,rfl⟩
 .rcases aHT.1 g with g|g
  .exact I c (aIw g)
  .rcases aHT.1 g with g|g
   .exact(q c g).2
   .exact I c (aID g)
 .show(f.n.cells.take f.at_++(cm++f.n.cells.drop (f.at_+k))).Pairwise _
  have E:cm.Pairwise λa b=>dO a.key b.key:=by
   cases cm with
   |nil=>simp
   |cons c cm=>cases cm with
    |nil=>simp
    |cons d cm=>simp at W
  refine aJq.2 ⟨rh h.node.ok.sorted _,aJq.2 ⟨E,ri h.node.ok.sorted _,λa l b i=>by rw[(q a l).1];exact o b i⟩,λa l b i=>?_⟩;rcases aHT.1 i with i|i
  .rw[(q b i).1];exact D a l
  .exact iK (D a l) (o b i)
 .exact fx.append.2 ⟨Lt,pt,_,_,h.cl.kept (w pt λx hx=>m x aba),fx.append.2 ⟨Lm,pm,s,j,C,z.kept (w j λx hx=>m x aba),rfl,rfl⟩,rfl,rfl⟩
 .have g:c∈f.n.cells.take f.at_++(cm++f.n.cells.drop (f.at_+k)):=g;rcases aHT.1 g with g|g
  .exact h.FE c (aIw g)
  .rcases aHT.1 g with g|g
   .rw[(q c g).1];exact⟨h.klo,h.khi⟩
   .exact h.FE c (aID g)
 .have u:(f.page::((pt++j)++ps)).Nodup:=by
   refine List.Sublist.nodup ?_ H;refine List.Sublist.cons_cons _ (List.Sublist.append (List.Sublist.append (List.Sublist.refl _) (List.sublist_append_right _ _)) (List.Sublist.refl _))
  have P:(f.page::((pt++(pm++j))++ps)).Perm (pm++(f.page::((pt++j)++ps))):=by
   refine(aJE.2 λx=>?_);simp only[aJM,aJZ];omega
  refine P.nodup_iff.2 (aIE.2 ⟨y,u,λa l b i e=>O a l (m a ?_)⟩);subst e;simp only[aHJ,aHT]at i⊢;rcases i with h|(h|h)|h<;>simp[h]
end
end
