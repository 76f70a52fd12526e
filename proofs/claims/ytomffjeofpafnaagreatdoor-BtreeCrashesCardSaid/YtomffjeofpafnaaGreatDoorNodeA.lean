import Derived.Test.YtomffjeofpafnaaGreatDoorTree
import Derived.Test.YtomffjeofpafnaaGreatDoorPagB
namespace Lim
open Go
noncomputable section
set_option linter.defProp false
set_option maxRecDepth 100000
section
variable {n:Nat}{X:List Nat}{v:CV}{k:Nat}{L:List (List CV)}{i:Nat}
def JJ (st:St)(x y:qN):St.set (St.new st x) st.nx y=St.new st y:=by
 simp only[St.set,St.new,St.mk.injEq,and_true];exact PT.ext λp=>by simp only[PT.eO];split<;>rfl
def ud {t:Nat}{z T:List CV}{s:St}{K:CV->St->Prop}(hz:z.length=n)(hl:T.length=n)(ho:aU T=true)(hK:K (.ptr s.nx 0) (St.new s (.cells T t false))):upon (dG t z s) λx s2=>upon (aQ n x (.agg T) s2) λ_ s3=>K x s3:=by
 rw[cE,aT,aF,aw];have:bo z 0 T=T:=dZ _ _ pX;rw[aS,aV,this,JJ];exact⟨⟨hl,ho,pX⟩,hK⟩
def aZ (c:dh):List CV:=[.str c.key,.str c.value,I c.dR,I c.size]
def bG (l:List dh):List CV:=(l.map aZ).flatten
def cF (l:List Nat):List CV:=l.map λn:Nat=>I n
def fM (l:List dh):∀x∈l.map aZ,x.length=4:=by
 intro x hx;obtain⟨c,_,rfl⟩:=aDR.1 hx;rfl
def bM (l:List dh):(bG l).length=l.length*4:=by unfold bG;rw[fB (fM l)];simp
@[simp] def pJ (l:List Nat):(cF l).length=l.length:=by simp[cF]
def gX (a b:List dh):bG (a++b)=bG a++bG b:=by simp[bG]
def ns (a b:List Nat):cF (a++b)=cF a++cF b:=by simp[cF]
def la (l:List dh)(i:Nat)(h:i<=l.length):(bG l).take (i*4)=bG (l.take i):=by
 unfold bG;rw[nD (fM l) i R5,aFc]
def lb (l:List dh)(i:Nat)(h:i<=l.length):(bG l).drop (i*4)=bG (l.drop i):=by
 unfold bG;rw[nE (fM l) i R5,aEN]
def uI (l:List Nat)(i:Nat):(cF l).take i=cF (l.take i):=by unfold cF;rw[aFc]
def uJ (l:List Nat)(i:Nat):(cF l).drop i=cF (l.drop i):=by unfold cF;rw[aEN]
@[simp] def gz (c:dh):aU (aZ c)=true:=rfl
@[simp] def eN (l:List dh):aU (bG l)=true:=by
  induction l with
  |nil=>rfl
  |cons c l ih=>
   have:bG (c::l)=aZ c++bG l:=by simp[bG]
   rw[this,qV,ih];rfl
@[simp] def jx (l:List Nat):aU (cF l)=true:=by
  induction l with
  |nil=>rfl
  |cons c l ih=>show(ck (I c)&&aU (cF l))=true;rw[ih];rfl
section
variable {st st':St}
def Sl.iH (hs:Sl st X v k L.flatten)(hk:0<k)(hw:∀x∈L,x.length=k)(hi:i<L.length)(Q:CV->Prop)(hq:Q (.agg L[i])):Lim.iH k k v (I i) st Q:=by
 have hlen:=fB hw;rcases hs with⟨rfl,h⟩|⟨b,off,len,cap,grow,rfl,h2,h3,h4⟩
 .rw[h]at hlen;have:0<L.length*k:=Nat.mul_pos pX hk;simp at hlen;omega
 .have:len=L.length:=aEx hk (by rw[<-h2,hlen]);subst this;rcases h4 with h4|⟨_,_,l,t,g,h7,h8,h9⟩
  .omega
  .unfold Lim.iH;rw[fU hi (.inr h3.1)]
   have Gw:i*k+k<=L.length*k:=by
    calc i*k+k=(i+1)*k:=by rw[aEz,aFy]
     _<=L.length*k:=aEj k hi
   simp only[af,nJ,h7,ar,rR];refine⟨pX,?_⟩
   have e:(l.drop (off+i*k)).take k=L[i]:=by
    rw[<-so hw i hi,<-h9,aFi,aFR,aEH,aEi pX]
   rw[e];exact hq
def Sl.cellAt (hs:Sl st X v k L.flatten)(hk:0<k)(hw:∀x∈L,x.length=k)(hi:i<L.length):∃b p l t g,(∀s,cQ k v (I i) s=.ok (.ptr b p) s)/\st.m.g b=some (.cells l t g)/\b<st.nx/\b∉X/\∀o x,L[i][o]?=some x->l[p+o]?=some x:=by
 have hlen:=fB hw;rcases hs with⟨rfl,h⟩|⟨b,off,len,cap,grow,rfl,h2,h3,h4⟩
 .rw[h]at hlen;have:0<L.length*k:=Nat.mul_pos pX hk;simp at hlen;omega
 .have:len=L.length:=aEx hk (by rw[<-h2,hlen]);subst this;rcases h4 with h4|⟨h5,h6,l,t,g,h7,h8,h9⟩
  .omega
  .refine⟨b,off+i*k,l,t,g,fU hi (.inr h3.1),h7,h6,h5,λo x hx=>?_⟩
   have Gw:i*k+k<=L.length*k:=by
    calc i*k+k=(i+1)*k:=by rw[aEz,aFy]
     _<=L.length*k:=aEj k hi
   have ho:o<k:=by
    obtain⟨h,_⟩:=aDD.1 hx;rw[hw _ (aDL hi)]at h;exact h
   rw[<-hx,<-Qp hw i hi o ho,<-h9,aFe,aDy pX,aFD]
   congr 1;omega
def IsNode (st:St)(X:List Nat)(v:CV)(n:bg):Prop:=∃vc vk,v=.agg [.bool n.leaf,vc,vk]/\Sl st X vc 4 (bG n.cells)/\Sl st X vk 1 (cF n.kids)
def IsNode.mono {n:bg}(h:IsNode st X v n)(hk:Kp X st st'):IsNode st' X v n:=by
 obtain⟨vc,vk,h1,h2,h3⟩:=h;exact⟨vc,vk,h1,h2.mono hk,h3.mono hk⟩
def IsNode.dz {Y:List Nat}{n:bg}(h:IsNode st X v n)(hy:∀q∈Y,q∈X\/st.nx<=q):IsNode st Y v n:=by
 obtain⟨vc,vk,h1,h2,h3⟩:=h;exact⟨vc,vk,h1,h2.dz hy,h3.dz hy⟩
def Al {least:Nat}:R 186 [I n,I least] st λv st'=>v=.bool (decide (least<=n/\n<=qt))/\st'=st:=by
 refine bN ?_;rw[aiY]
 by_cases h1:least<=n
 .have e1:(least:Int)<=n:=by omega
  have e2:((n:Int)<=2147483647)↔n<=qt:=by show _↔n<=2147483647;omega
  simp[h1,e1,e2]
 .have e1:¬(least:Int)<=n:=by omega
  simp[h1,e1]
def XD {c:dh}{leaf:Bool}(h:c.ok leaf):R 183 [.agg (aZ c),.bool leaf] st λv st'=>v=.bool true/\Kp [] st st':=by
 refine bN ?_;rw[ajb];rw[bW,aV];refine⟨rfl,?_⟩;have k1:Kp [] st (St.new st (.cells (aZ c) 109 false)):=(Kp.refl [] st).new _;have g1:(St.new st (.cells (aZ c) 109 false)).m.g st.nx=some (.cells [.str c.key,.str c.value,I c.dR,I c.size] 109 false):=aw _ _;generalize St.new st (.cells (aZ c) 109 false)=s1 at*;have e0:¬(48:Int)<c.key.length:=by have:=h.key;omega
 simp only[fl,ah,af,aC,g1,ar,aDx,aDo,az,fp,ay,dx,e0,aEY,ag,aDp,aDE,cN];cases leaf with
 |false=>
  obtain⟨h1,h2,h3⟩:=h.inner rfl;rw[aDI,aDy rfl,aR (n:=4) g1 rfl,af];simp[dw,cq,bo,vK,nb,Ee,jf,andThen,ia,h1,h2,h3,k1]
 |true=>
  rw[aDJ,aDv wI]
  by_cases h0:c.dR=0
  .obtain⟨h1,h2⟩:=h.short rfl h0;have e1:(c.value.length:Int)<=64:=by omega
   simp[h0,h1,g1,jV,e1,k1]
  .obtain⟨h1,h2,h3,h4⟩:=h.far rfl h0;have e1:¬(c.dR:Int)=0:=by omega
   simp[h1,g1,jV,h0];refine(Al (n:=c.dR) (least:=1)).same ?_;have e2:1<=c.dR:=pX
   have e3:decide (1<=c.dR/\c.dR<=qt)=true:=aDz ⟨e2,h2⟩;have e4:decide (1<=c.size/\c.size<=qt)=true:=aDz ⟨h3,h4⟩;simp only[e3,g1,af,aJ,aDQ,aL,bp,eE,aC,ar,aDq,aDo,az];refine(Al (n:=c.size) (least:=1)).same ?_;simp only[e4];exact⟨adu,k1⟩
end
end
section
variable {st st':St}
def gT (i:Nat)(h:i<=4000000000000000000)(s:St)(d:Option jX):ai .add d true (I i) (.int .i64 1) s=.ok (I ((i+1:Nat):Int)) s:=CE
def yR (i:Nat)(h:i<=4000000000000000000)(h0:0<i)(s:St)(d:Option jX):ai .sub d true (I i) (.int .i64 1) s=.ok (I ((i-1:Nat):Int)) s:=EH
def dq (i n:Nat)(s:St)(d:Option jX)(c:Bool):ai .lss d c (I i) (I n) s=.ok (.bool (decide (i<n))) s:=aan
def Tb {X:List Nat}{v:CV}{l:List Nat}(hs:Sl st X v 1 (cF l))(hl:l.length<=1000000)(hk:∀k∈l,k<=qt):R 184 [v,.func (.func 185) [] []] st λx st'=>x=.bool false/\Kp [] st st':=by
 refine bN ?_;rw[aja]
 have key:R 202 [v,.func (.func 185) [] []] st λx st'=>x=.int .i64 (-1)/\Kp [] st st':=by
  refine bN ?_;rw[aiQ];have hlen:=hs.len l.length rq pX st;simp only[cK,aH,aI,hlen,af];refine bK (λfu vs s=>∃i,fu+i=l.length/\vs=[v,.func (.func 185) [] [],I l.length,I i]/\Kp [] st s) ?_ (n:=l.length) ⟨0,rfl,rfl,Kp.refl _ _⟩;rintro fu vs s k ⟨i,hi,rfl,nt⟩ next;simp only[aH,aI,dq,af,ag]
  by_cases hc:i<l.length
  .rw[aDz hc,aDy rfl];have HB:=(hs.dz (Y:=[]) rq).mono nt;refine HB.idx (i:=i) Hw _ ?_;have e:(cF l)[i]'(by simpa using hc)=I l[i]:=by simp[cF]
   rw[e,dM];simp only[aDV,aEs];refine bN ?_;rw[aiZ];refine(Al (n:=l[i]) (least:=0)).same ?_;have e2:decide (0<=l[i]/\l[i]<=qt)=true:=aDz ⟨pX,hk _ (aDL hc)⟩;simp only[e2,cN,af,aDJ,ag,aDp,aDE,gT i pX];exact next (fu-1) _ _ pX ⟨i+1,pX,rfl,nt⟩
  .rw[aDr hc,aDv wI];exact⟨adu,nt⟩
 refine key.mono ?_;rintro _ s ⟨rfl,h⟩;simp[h]
def Aq {v:CV}{n:bg}(h:IsNode st [] v n)(hn:n.ok)(hl:n.cells.length<=100000):R 145 [v] st λx st'=>x=.bool true/\Kp [] st st':=by
 obtain⟨vc,vk,rfl,h1,h2⟩:=h;refine bN ?_;rw[ajD];rw[bW,aV];refine⟨rfl,?_⟩;have k1:Kp [] st (St.new st (.cells [.bool n.leaf,vc,vk] 105 false)):=(Kp.refl [] st).new _;have g1:(St.new st (.cells [.bool n.leaf,vc,vk] 105 false)).m.g st.nx=some (.cells [.bool n.leaf,vc,vk] 105 false):=aw _ _;have n1:(St.new st (.cells [.bool n.leaf,vc,vk] 105 false)).nx=st.nx+1:=rfl;generalize St.new st (.cells [.bool n.leaf,vc,vk] 105 false)=s1 at*;have hlen:=(h1.mono k1).len n.cells.length (bM _) pX s1;simp only[cK,aH,aI,fl,ah,af,aC,g1,ar,aDx,aDq,aDo,az,hlen];refine bK (λfu vs s=>∃i,fu+i=n.cells.length/\vs=[.ptr st.nx 0,vc,I n.cells.length,I i]/\Kp [] s1 s) ?_ (n:=n.cells.length) ⟨0,rfl,rfl,Kp.refl _ _⟩;rintro fu vs s k ⟨i,hi,rfl,hk⟩ next;have g2:=(hk.keep st.nx pX rq).trans g1;have mc:=k1.trans hk rq;simp only[aH,aI,dq,af,ag]
 by_cases hc:i<n.cells.length
 .rw[aDz hc,aDy rfl];refine(h1.mono mc).iH (L:=n.cells.map aZ) pX (fM _) Hw _ ?_;have e:(n.cells.map aZ)[i]'(by simpa using hc)=aZ n.cells[i]:=by simp
  rw[e];refine ud rfl rfl (gz _) ?_;have k3:Kp [] s (St.new s (.cells (aZ n.cells[i]) 109 false)):=(Kp.refl _ s).new _;have g3:(St.new s (.cells (aZ n.cells[i]) 109 false)).m.g s.nx=some (.cells [.str n.cells[i].key,.str n.cells[i].value,I n.cells[i].dR,I n.cells[i].size] 109 false):=aw _ _;have n3:(St.new s (.cells (aZ n.cells[i]) 109 false)).nx=s.nx+1:=rfl;generalize St.new s (.cells (aZ n.cells[i]) 109 false)=s3 at*;have g2':=(k3.keep st.nx (by have:=mc.nx;have:=hk.nx;omega) rq).trans g2;rw[bA,aR (n:=4) g3 rfl];simp only[af,ah,aC,g2',ar,aDx,aDo,az];refine(XD (hn.cell _ (aDL hc))).mono ?_;rintro _ s6 ⟨rfl,k6⟩;have DS:=(hk.trans k3 rq).trans k6 rq;have anC:=k1.trans DS rq;have Qg:=(k6.keep s.nx pX rq).trans g3;have g6:=(DS.keep st.nx pX rq).trans g1;have e1:ai .gtr none true (I i) (.int .i64 0) s6=.ok (.bool (decide (0<i))) s6:=AS
  simp only[cN,af,aDJ,aL,aDp,aDE,aDI,bp,e1]
  by_cases h0:0<i
  .rw[aDz h0];obtain⟨b,p,cl,ct,cg,q1,q2,_,_,q3⟩:=((h1.mono anC)).cellAt (L:=n.cells.map aZ) pX (fM _) (i:=i-1) AI;have q4:=q3 0 (.str n.cells[i-1].key) aaq;rw[aEb]at q4;simp only[aDQ,bp,ah,af,aC,g6,ar,aEb,aDq,aDo,az,yR i pX h0,q1,q2,q4];have hlt:eD n.cells[i-1].key n.cells[i].key:=aFI.1 hn.sorted _ _ _ _ pX;have e9:¬kh n.cells[i].key n.cells[i-1].key:=λh=>h hlt;simp only[Qg,ar,aDo,az,dY,rI,e9,aEY,af,aJ,aDQ,aDp,aDE,ag,gT i pX];refine⟨⟨adu,adu,adu,adu,adu,adu⟩,adu,?_⟩;exact next (fu-1) _ _ pX ⟨i+1,pX,rfl,DS⟩
  .rw[aDr h0];simp only[aDp,aDE,aDQ,cH,af,aJ,ag,gT i pX];refine⟨⟨adu,adu,adu,adu,adu,adu⟩,adu,?_⟩;exact next (fu-1) _ _ pX ⟨i+1,pX,rfl,DS⟩
 .rw[aDr hc,aDv wI];have PA:=(h1.mono mc).len n.cells.length (bM _) pX s;have Px:=(h2.mono mc).len n.kids.length rq pX s;have qA:=hn.jA;simp only[ah,af,aC,g2,ar,aDx,aDq,aDo,az,PA,gT n.cells.length pX,ag];have Bg:n.kids.length<=1000000:=by rw[qA];split<;>omega
  have fin:∀m:Nat,n.kids.length=m->
   us (bj .slice vk s) (λjN=>us (ai BinOp.eql (some jX.int) false jN (CV.int IntKind.i64 m) s) λjk=>
    jV (ak true jk) 2 (CV.ptr st.nx 0) s λjg=>eR (ak true jk) s (λk=>R 184 [jg,CV.func (Fn.func 185) [] []] s k) λjR s8=>us (aX (ak true jk) s8 (kF UnOp.not jR s8)) λjQ=>us (bf jk jQ (CV.bool false) s8) λjj=>jj=CV.bool true/\Kp [] st s8):=by
   intro m hm;have e5:ai .eql (some .int) false (I n.kids.length) (.int .i64 m) s=.ok (.bool true) s:=by rw[ay,cz,aDz pX]
   simp only[Px,af,e5,aL,aDQ,jV,bp,eE,ah,aC,g2,ar,aDx,aDq,aDo,az];refine(Tb (h2.mono mc) Bg hn.BV).mono ?_;rintro _ s8 ⟨rfl,k8⟩;simp only[cN,af,aJ,aDQ,aDI];exact⟨adu,mc.trans k8 rq⟩
  cases fY:n.leaf with
  |true=>rw[aDy rfl];rw[fY,aDy rfl]at qA;exact fin 0 qA
  |false=>rw[aDv wI];rw[fY,aDv wI]at qA;exact fin _ qA
end
section
variable {k e:Nat}{L:List CV}{s0 s s':St}{x v:CV}{n:bg}
section
variable {st st':St}
def Made.after (h:Kp [] s0 s)(m:Made k e L s x s'):Made k e L s0 x s':=by
 obtain⟨F,h1,h2,h3⟩:=m;exact⟨F,h.trans h1 rq,h2,λb hb=>⟨by have:=(h3 b hb).1;have:=h.nx;omega,(h3 b hb).2⟩⟩
def Made.kp (m:Made k e L s0 x s):Kp [] s0 s:=by obtain⟨F,h1,_⟩:=m;exact h1
def Made.keep (m:Made k e L s0 x s)(h:Kp [] s s'):Made k e L s0 x s':=by
 obtain⟨F,h1,h2,h3⟩:=m;exact⟨F,h1.trans h rq,h2.keep h λb hb=>⟨(h3 b hb).2,rq⟩,λb hb=>⟨(h3 b hb).1,by have:=(h3 b hb).2;have:=h.nx;omega⟩⟩
def tp {l:CV}{b:List UInt8}{ks:List Nat}(hm:Made 1 5 (aj b) s0 v st)(hl:Sl st [] l 1 (cF ks))(hk:∀k∈ks,k<=qt)(Bg:ks.length<=10000)(hb:b.length<=800000):R 187 [v,l] st λx st'=>Made 1 5 (aj (b++eK ks)) s0 x st'/\Kp [] st st':=by
 refine bN ?_;rw[aiX];have hlen:=hl.len ks.length rq pX st;simp only[cK,aH,aI,hlen,af];refine bK (λfu vs s=>∃i x,fu+i=ks.length/\vs=[x,l,I ks.length,I i]/\Made 1 5 (aj (b++eK (ks.take i))) s0 x s/\Kp [] st s) ?_ (n:=ks.length) ⟨0,v,rfl,rfl,by simpa[eK]using hm,Kp.refl _ _⟩;rintro fu vs s k ⟨i,x,hi,rfl,hx,mc⟩ next;simp only[aH,aI,dq,af,ag]
 by_cases hc:i<ks.length
 .rw[aDz hc,aDy rfl];refine(hl.mono mc).idx (i:=i) Hw _ ?_;have e:(cF ks)[i]'(by simpa using hc)=I ks[i]:=by simp[cF]
  rw[e];have hki:=hk _ (aDL hc);have si:=pK (l:=ks.take i) λk h=>hk k (aEg h);rw[aDF]at si;have I4:min i ks.length<=10000:=pX
  refine(sv (hx.sl [] rq) (n:=ks[i]) aby hki).mono ?_;intro x' s' A9;simp only[gT i pX,af];refine next (fu-1) _ _ pX ⟨i+1,x',pX,rfl,?_,mc.trans A9.kp rq⟩
  have e2:b++eK (ks.take (i+1))=b++eK (ks.take i)++uv ks[i]:=by
   rw[aDH hc,iG];simp[eK]
  rw[e2];exact A9.after hx.kp
 .rw[aDr hc,aDv wI];have:ks.take i=ks:=aDA pX;rw[this]at hx;exact⟨hx,mc⟩
structure Cz (n:bg):Prop where
 cell:∀c∈n.cells,c.ok n.leaf
 BV:∀k∈n.kids,k<=qt
 cells:n.cells.length<=1000
 kids:n.kids.length<=1001
def wv (hf:eM st)(h:IsNode st [] v n)(hn:Cz n):R 146 [v] st (Made 1 5 (aj (mD n)) st):=by
 obtain⟨vc,vk,rfl,h1,h2⟩:=h;refine bN ?_;rw[ajC];rw[bW,aV];refine⟨rfl,?_⟩;have k1:Kp [] st (St.new st (.cells [.bool n.leaf,vc,vk] 105 false)):=(Kp.refl [] st).new _;have g1:(St.new st (.cells [.bool n.leaf,vc,vk] 105 false)).m.g st.nx=some (.cells [.bool n.leaf,vc,vk] 105 false):=aw _ _;have n1:(St.new st (.cells [.bool n.leaf,vc,vk] 105 false)).nx=st.nx+1:=rfl;have f1:eM (St.new st (.cells [.bool n.leaf,vc,vk] 105 false)):=hf.new _;generalize St.new st (.cells [.bool n.leaf,vc,vk] 105 false)=s1 at*;have k2:=(Kp.refl [] s1).skip;have jd:(St.skip s1).m.g s1.nx=none:=f1 _ (aDt _);have g2:(St.skip s1).m.g st.nx=some (.cells [.bool n.leaf,vc,vk] 105 false):=g1;have n2:(St.skip s1).nx=s1.nx+1:=rfl;have f2:=f1.skip;rw[bA];generalize St.skip s1=s2 at*;simp only[ah,af,aC,g2,ar,aDx,aDq,aDo,az];have I3:Sl s2 [] .ae 1 (aj []):=.inl ⟨rfl,rfl⟩;refine(Qq (f:=n.leaf) I3 rq).mono ?_;intro x4 s3 m3;rw[aDV]at m3;have k3:=m3.kp;have n3:=k3.nx;have g3:=(k3.keep st.nx pX rq).trans g2;have YA:=(k3.keep s1.nx pX rq).trans jd;have I7:=((k1.trans k2 rq).trans k3 rq);have hlen:=(h1.mono I7).len n.cells.length (bM _) pX s3;simp only[g3,ar,aDq,aDo,az,hlen,af];have zZ:gf [(0,1,I n.cells.length)] (cJ 1 [(.int .i64 0)])=some [I n.cells.length]:=rfl;rw[jw YA zZ,aT];have k4:Kp [s1.nx] s3 (St.set s3 s1.nx (.cells [I n.cells.length] 3 false)):=(Kp.refl _ s3).set _ (.inl rq) pX;have g4:(St.set s3 s1.nx (.cells [I n.cells.length] 3 false)).m.g s1.nx=some (.cells [I n.cells.length] 3 false):=aq _ _ _;have n4:(St.set s3 s1.nx (.cells [I n.cells.length] 3 false)).nx=s3.nx:=rfl;have g4':(St.set s3 s1.nx (.cells [I n.cells.length] 3 false)).m.g st.nx=some (.cells [.bool n.leaf,vc,vk] 105 false):=(al _ _ _ _ pX).trans g3;have TK:Kp [] st (St.set s3 s1.nx (.cells [I n.cells.length] 3 false)):=I7.set _ (.inr pX) pX
 have m4:Made 1 5 (aj (uv (if n.leaf=true then 1 else 0))) st x4 (St.set s3 s1.nx (.cells [I n.cells.length] 3 false)):=by
  obtain⟨F,a1,a2,a3⟩:=m3;exact⟨F,TK,a2.mono λb hb=>al _ _ _ _ aaL,λb hb=>⟨aaL,(a3 b hb).2⟩⟩
 generalize St.set s3 s1.nx (.cells [I n.cells.length] 3 false)=s4 at*;have amk:Sl s4 [] (.slice s1.nx 0 1 1 0) 1 (cF [n.cells.length]):=.inr ⟨s1.nx,0,1,1,0,rfl,rfl,⟨aDt _,.inl rfl⟩,.inr ⟨rq,pX,_,_,_,g4,rq,rfl⟩⟩;have qC:=hn.cells;have hu1:(uv (if n.leaf=true then 1 else 0)).length=1:=eJ aaE;refine(tp m4 amk (by intro k hk;simp at hk;show k<=2147483647;omega) rq pX).mono ?_;rintro x9 s5 ⟨m5,Ti⟩;have anD:eK [n.cells.length]=uv n.cells.length:=acd
 rw[anD]at m5;have k5:=m5.kp;have g5:=(Ti.keep st.nx pX rq).trans g4';have Pz:=(h1.mono k5).len n.cells.length (bM _) pX s5;have X5:(uv n.cells.length).length<=2:=pY pX;simp only[jd,ar,az,aDq,aDo,aFw,cK,aH,aI,fl,ah,af,aC,aDx,g5,g4',Pz];refine bK (λfu vs s=>∃i x,fu+i=n.cells.length/\vs=[.ptr st.nx 0,x,vc,I n.cells.length,I i]/\Made 1 5 (aj (uv (if n.leaf=true then 1 else 0)++uv n.cells.length++cR n.leaf (n.cells.take i))) st x s/\s.m.g st.nx=some (.cells [.bool n.leaf,vc,vk] 105 false)/\st.nx<s.nx) ?_ (n:=n.cells.length) ⟨0,x9,rfl,rfl,by simpa[cR]using m5,g5,by have:=Ti.nx;omega⟩;rintro fu vs s k ⟨i,x,hi,rfl,hx,gs,hns⟩ next;simp only[aH,aI,dq,af,ag];have mc:=hx.kp;have PH:=mc.fresh hf
 by_cases hc:i<n.cells.length
 .rw[aDz hc,aDy rfl];refine(h1.mono mc).iH (L:=n.cells.map aZ) pX (fM _) Hw _ ?_;have e:(n.cells.map aZ)[i]'(by simpa using hc)=aZ n.cells[i]:=by simp
  rw[e];refine ud rfl rfl (gz _) ?_;have DW:=hn.cell _ (aDL hc);have hle:=nG (leaf:=n.leaf) (l:=n.cells.take i) λc h=>hn.cell c (aEg h);rw[aDF]at hle;have I4:min i n.cells.length<=1000:=pX
  have e2:cR n.leaf (n.cells.take (i+1))=cR n.leaf (n.cells.take i)++ik n.leaf n.cells[i]:=by
   rw[aDH hc,ep];simp[cR]
  have hB:∀r:List UInt8,r=ik n.leaf n.cells[i]->(uv (if n.leaf=true then 1 else 0)++uv n.cells.length++cR n.leaf (n.cells.take i))++r=uv (if n.leaf=true then 1 else 0)++uv n.cells.length++cR n.leaf (n.cells.take (i+1)):=λr hr=>by rw[hr,e2];simp
  generalize dm:uv (if n.leaf=true then 1 else 0)++uv n.cells.length++cR n.leaf (n.cells.take i)=pre at*;have asx:pre.length<=200000:=by rw[<-dm,aDw,aDw];omega
  generalize n.cells[i]=c at*;have k3:Kp [] s (St.new s (.cells (aZ c) 109 false)):=(Kp.refl _ s).new _;have g3:(St.new s (.cells (aZ c) 109 false)).m.g s.nx=some (.cells [.str c.key,.str c.value,I c.dR,I c.size] 109 false):=aw _ _;have n3:(St.new s (.cells (aZ c) 109 false)).nx=s.nx+1:=rfl;generalize St.new s (.cells (aZ c) 109 false)=sa at*;have gsa:=(k3.keep st.nx hns rq).trans gs;simp only[ah,af,aC,g3,ar,aDx,aDo,az];have Bg:=DW.key;refine(CM ((hx.keep k3).sl [] rq) pX (s:=c.key) pX).mono ?_;intro eg sb mb;have kb:=mb.kp;have Gj:=kb.nx;have gb:=(kb.keep st.nx pX rq).trans gsa;have gc:=(kb.keep s.nx pX rq).trans g3;have YF:Made 1 5 (aj (pre++(uv c.key.length++c.key))) st eg sb:=mb.after (mc.trans k3 rq);have RA:(uv c.key.length).length=1:=eJ pX;simp only[gb,ar,az,aDo,cN,af,ag];cases fY:n.leaf with
  |false=>
   rw[aDI,aDy rfl,gT i pX,af];rw[fY]at hB;refine next (fu-1) _ _ pX ⟨i+1,eg,pX,rfl,?_,by rw[gb,fY],pX⟩;rw[fY,<-hB _ rfl];have:ik false c=uv c.key.length++c.key:=by unfold ik;simp
   rw[this];exact YF
  |true=>
   rw[aDJ,aDv wI];rw[fY]at hB DW;have hfb:=YF.kp.fresh hf;simp only[gc,ar,az,aDq,aDo]
   by_cases h0:c.dR=0
   .obtain⟨HB,HA⟩:=DW.short rfl h0;have e5:ai .eql (some .int) true (I c.dR) (.int .i64 0) sb=.ok (.bool true) sb:=by rw[h0];rfl
    simp only[e5,af,ag,aDQ,bA];have Tx:(St.skip sb).m.g sb.nx=none:=hfb _ (aDt _);have aoi:gf [(0,1,(.int .i64 0))] (cJ 1 [(.int .i64 0)])=some [I ((0:Nat):Int)]:=rfl;rw[jw Tx aoi,aT];have kd:Kp [] sb (St.set (St.skip sb) sb.nx (.cells [I ((0:Nat):Int)] 3 false)):=((Kp.refl _ sb).skip).set _ (.inr (aDt _)) rq;have gd:(St.set (St.skip sb) sb.nx (.cells [I ((0:Nat):Int)] 3 false)).m.g sb.nx=some (.cells [I ((0:Nat):Int)] 3 false):=aq _ _ _;have nd:(St.set (St.skip sb) sb.nx (.cells [I ((0:Nat):Int)] 3 false)).nx=sb.nx+1:=rfl;generalize St.set (St.skip sb) sb.nx (.cells [I ((0:Nat):Int)] 3 false)=sd at*;have Yh:Sl sd [] (.slice sb.nx 0 1 1 0) 1 (cF [0]):=.inr ⟨sb.nx,0,1,1,0,rfl,rfl,⟨aDt _,.inl rfl⟩,.inr ⟨rq,pX,_,_,_,gd,rq,rfl⟩⟩;refine(tp (YF.keep kd) Yh (by intro k hk;simp at hk;show k<=2147483647;omega) rq (by rw[aDw,aDw];omega)).mono ?_;rintro gD se ⟨me,ke⟩;have anE:eK [0]=uv 0:=acd
    rw[anE]at me;have gq:=ke.nx;have gd':=(kd.keep s.nx pX rq).trans gc;have ge:=(ke.keep s.nx pX rq).trans gd';have ge':=(ke.keep st.nx pX rq).trans ((kd.keep st.nx pX rq).trans gb);have X6:(uv 0).length=1:=eJ pX;simp only[gd',ge,ar,aDq,aDo,az];refine(CM (me.sl [] rq) (by rw[aDw,aDw,aDw];omega) (s:=c.value) pX).mono ?_;intro gL sf mf;have kf:=mf.kp;have hnf:=kf.nx;have gf':=(kf.keep st.nx pX rq).trans ge';simp only[gT i pX,af,and_true,aFw];refine next (fu-1) _ _ pX ⟨i+1,gL,pX,rfl,?_,by rw[gf',fY],pX⟩;rw[fY,<-hB _ rfl];have:ik true c=uv c.key.length++(c.key++(uv 0++(uv c.value.length++c.value))):=by unfold ik;simp[h0]
    rw[this];have:=mf.after me.kp
    simpa using this
   .obtain⟨HB,HA,Vj,hs4⟩:=DW.far rfl h0;have e5:ai .eql (some .int) true (I c.dR) (.int .i64 0) sb=.ok (.bool false) sb:=by rw[ay,cz,aDr pX]
    simp only[e5,af,ag,aDp,aDE];have Nc:bO 3 2 (cJ 2 [(.int .i64 0)]) [(0,1,I c.dR),(1,1,I c.size)] sb=.ok (.slice sb.nx 0 2 2 0) (St.new sb (.cells [I c.dR,I c.size] 3 false)):=rfl;rw[Nc,aT];have kd:Kp [] sb (St.new sb (.cells [I c.dR,I c.size] 3 false)):=(Kp.refl _ sb).new _;have gd:(St.new sb (.cells [I c.dR,I c.size] 3 false)).m.g sb.nx=some (.cells [I c.dR,I c.size] 3 false):=aw _ _;have nd:(St.new sb (.cells [I c.dR,I c.size] 3 false)).nx=sb.nx+1:=rfl;generalize St.new sb (.cells [I c.dR,I c.size] 3 false)=sd at*;have Yh:Sl sd [] (.slice sb.nx 0 2 2 0) 1 (cF [c.dR,c.size]):=.inr ⟨sb.nx,0,2,2,0,rfl,rfl,⟨aDt _,.inl rfl⟩,.inr ⟨rq,pX,_,_,_,gd,rq,rfl⟩⟩;refine(tp (YF.keep kd) Yh (by intro k hk;simp at hk;rcases hk with rfl|rfl<;>assumption) rq (by rw[aDw,aDw];omega)).mono ?_;rintro jG se ⟨me,ke⟩;have gq:=ke.nx;have ge':=(ke.keep st.nx pX rq).trans ((kd.keep st.nx pX rq).trans gb);simp only[gT i pX,af];refine next (fu-1) _ _ pX ⟨i+1,jG,pX,rfl,?_,by rw[ge',fY],pX⟩;rw[fY,<-hB _ rfl];have:ik true c=uv c.key.length++(c.key++(uv c.dR++uv c.size)):=by unfold ik;simp[h0]
    rw[this];have e6:eK [c.dR,c.size]=uv c.dR++uv c.size:=acd
    rw[e6]at me
    simpa using me
 .rw[aDr hc,aDv wI];have ht:n.cells.take i=n.cells:=aDA pX;rw[ht]at hx;simp only[ah,af,aC,gs,ar,aDx,aDq,aDo,az,ag];have hle:=nG (leaf:=n.leaf) (l:=n.cells) hn.cell;cases fY:n.leaf with
  |true=>
   rw[aDy rfl];rw[fY]at hx;unfold mD;rw[fY]
   simpa using hx
  |false=>
   rw[aDv wI];refine(tp hx (h2.mono mc) hn.BV (by have:=hn.kids;omega) (by rw[aDw,aDw];omega)).mono ?_;rintro jk se ⟨me,_⟩;rw[fY]at me;unfold mD;rw[fY]
   simpa using me
def bg.ok.b (h:n.ok)(hl:n.cells.length<=1000):Cz n:=⟨h.cell,h.BV,hl,by have:=h.jA;rw[this];split<;>omega⟩
def CT (hf:eM st)(h:IsNode st [] v n)(hn:n.ok)(hl:n.cells.length<=1000):R 105 [v] st λx st'=>x=I n.size/\Kp [] st st':=by
 have h':=h;obtain⟨vc,vk,rfl,h1,h2⟩:=h;refine bN ?_;rw[aki];rw[bW,aV];refine⟨rfl,?_⟩;have k1:Kp [] st (St.new st (.cells [.bool n.leaf,vc,vk] 105 false)):=(Kp.refl [] st).new _;have g1:(St.new st (.cells [.bool n.leaf,vc,vk] 105 false)).m.g st.nx=some (.cells [.bool n.leaf,vc,vk] 105 false):=aw _ _;have n1:(St.new st (.cells [.bool n.leaf,vc,vk] 105 false)).nx=st.nx+1:=rfl;generalize St.new st (.cells [.bool n.leaf,vc,vk] 105 false)=s1 at*;rw[aR (n:=3) g1 rfl,af];refine(Aq (h'.mono k1) hn pX).mono ?_;rintro _ s2 ⟨rfl,k2⟩;have kW:=k1.trans k2 rq;have g2:=(k2.keep st.nx pX rq).trans g1;simp only[cN,af,aDJ,ag,aDp,aDE];rw[aR (n:=3) g2 rfl,af];refine(wv (kW.fresh hf) (h'.mono kW) (hn.b hl)).mono ?_;intro x s3 m3;have:=m3.kp;rw[(m3.sl [] rq).len (mD n).length rq pX s3,af];exact⟨rfl,kW.trans m3.kp rq⟩
def My (hf:eM st)(h:IsNode st [] v n)(hn:n.ok)(hs:n.size<=512):R 142 [v] st λy st'=>∃x,y=.tuple [x,I 0]/\Made 1 5 (aj (mD n)) st x st':=by
 have h':=h;obtain⟨vc,vk,rfl,h1,h2⟩:=h
 have hl:n.cells.length<=512:=by
  have:=eT n.leaf n.cells;rw[cc]at hs;omega
 refine bN ?_;rw[ajE];rw[bW,aV];refine⟨rfl,?_⟩;have k1:Kp [] st (St.new st (.cells [.bool n.leaf,vc,vk] 105 false)):=(Kp.refl [] st).new _;have g1:(St.new st (.cells [.bool n.leaf,vc,vk] 105 false)).m.g st.nx=some (.cells [.bool n.leaf,vc,vk] 105 false):=aw _ _;have n1:(St.new st (.cells [.bool n.leaf,vc,vk] 105 false)).nx=st.nx+1:=rfl;generalize St.new st (.cells [.bool n.leaf,vc,vk] 105 false)=s1 at*;rw[aR (n:=3) g1 rfl,af];refine(Aq (h'.mono k1) hn pX).mono ?_;rintro _ s2 ⟨rfl,k2⟩;have kW:=k1.trans k2 rq;have g2:=(k2.keep st.nx pX rq).trans g1;simp only[cN,af,aDJ,ag,aDp,aDE];rw[aR (n:=3) g2 rfl,af];refine(wv (kW.fresh hf) (h'.mono kW) (hn.b pX)).mono ?_;intro x s3 m3
 have e1:ai .gtr none true (I (mD n).length) (.int .i64 512) s3=.ok (.bool false) s3:=by
  rw[ay,dx,aDr (by unfold bg.size at hs;omega)]
 rw[(m3.sl [] rq).len (mD n).length rq pX s3];simp only[af,e1,ag,aDp,aDE];exact⟨x,rfl,m3.after kW⟩
end
end
section
variable {k:Nat}{z:List CV}{x v:CV}{F:List Nat}
section
variable {st st':St}
def Ea (hz:z.length=k)(hx:x.cA.length=k)(ha:x.isAny=false):gf [(0,k,x)] (cJ 1 z)=some x.cA:=by
 have:cJ 1 z=z:=by simp[cJ]
 rw[cq,aDy ⟨⟨hx,ha⟩,by rw[this];omega⟩,this,kY];rw[dZ _ _ pX]
def Ei {s:St}{b:Nat}{e:Nat}(bytes:Nat){L:List CV}{K:CV->St->CV->St->Prop}(h:Own s v k e L F)(hk:0<k)(hF:∀q∈F,q<s.nx/\q≠b)(hb:b<s.nx)(hn:s.m.g b=none)(hz:z.length=k)(hx:x.cA.length=k)(ha:x.isAny=false)(iY:aU x.cA=true)
 (hsz:(L.length+k)*(bytes+1)<=140737488355328) (hK:∀v' s2 F',Own s2 v' k e (L++x.cA) F'->Kp (b::F) s s2->(∀q∈F',(q∈F\/s.nx<=q)/\q<s2.nx)->K (.slice b 0 1 1 0) (St.set s b (.cells x.cA e false)) v' s2):
 upon (fT b e 1 (cJ 1 z) [(0,k,x)] s) λx8 bY=>upon (bI e k bytes v (cW .slice k z x8 bY) bY) λx9 ey=>K x8 bY x9 ey:=by
 rw[jw hn (Ea hz hx ha),aT];have nt:Kp (b::F) s (St.set s b (.cells x.cA e false)):=(Kp.refl _ s).set _ (.inl rq) hb;have h1:Own (St.set s b (.cells x.cA e false)) v k e L F:=h.mono λq hq=>al _ _ _ _ (hF q hq).2;rw[Fx (k:=k) (n:=1) (aq _ _ _) pX pX];obtain⟨v',st',F',e1,e2,e3,e4⟩:=h1.append (n:=1) (bytes:=bytes) (T:=x.cA) hk pX iY (λq hq=>(hF q hq).1) (by rw[hx];exact hsz);rw[e1,aT];refine hK v' st' F' e2 (nt.trans e3 λq hq=>.inl WD) λq hq=>⟨(e4 q hq).1.imp id λh=>?_,(e4 q hq).2⟩;have:(St.set s b (.cells x.cA e false)).nx=s.nx:=rfl;omega
def Wh (r:Nat)(F:List Nat)(L:List UInt8)(st st':St):Prop:=Kp F st st'/\oo st' r F L
def Ut {r:Nat}{L:List UInt8}{leaf:Bool}{c:dh}(h:oo st r F (ik leaf c++L))(hc:c.ok leaf)(hF:∀b∈F,b<st.nx):R 177 [.ptr r 0,.bool leaf] st λx st'=>x=.agg (aZ c)/\Wh r F L st st':=by
 refine bN ?_;rw[aje];have k1:Kp F st (St.new st (.cells [.str [],.str [],.int .i64 0,.int .i64 0] 109 false)):=(Kp.refl F st).new _;have g1:(St.new st (.cells [.str [],.str [],.int .i64 0,.int .i64 0] 109 false)).m.g st.nx=some (.cells [.str [],.str [],.int .i64 0,.int .i64 0] 109 false):=aw _ _;have n1:(St.new st (.cells [.str [],.str [],.int .i64 0,.int .i64 0] 109 false)).nx=st.nx+1:=rfl;have r1:=h.keep ((Kp.refl [] st).new (.cells [.str [],.str [],.int .i64 0,.int .i64 0] 109 false)) rq;rw[cE,aT];generalize St.new st (.cells [.str [],.str [],.int .i64 0,.int .i64 0] 109 false)=s1 at*;have gq:∀b∈F,b≠st.nx:=λb hb=>by have:=hF b hb;omega
 have hnF:st.nx∉F:=λh=>gq _ h rfl;have e1:ik leaf c++L=uv c.key.length++(c.key++((if leaf=true then (if c.dR=0 then uv 0++(uv c.value.length++c.value)else uv c.dR++uv c.size)else [])++L)):=by unfold ik;simp
 rw[e1]at r1;refine(CZ (m:=48) r1 hc.key pX).mono ?_;rintro _ s2 ⟨rfl,k2,n2,r2⟩;have mR:bu [.str [],.str [],.int .i64 0,.int .i64 0] [(0,1,.str c.key)] s2=.ok (.agg [.str c.key,.str [],.int .i64 0,.int .i64 0]) s2:=rfl;rw[mR,af];have g2:=(k2.keep st.nx pX hnF).trans g1;refine ud rfl rfl rfl ?_;have k3:Kp F s2 (St.new s2 (.cells [.str c.key,.str [],.int .i64 0,.int .i64 0] 109 false)):=(Kp.refl F s2).new _;have g3:(St.new s2 (.cells [.str c.key,.str [],.int .i64 0,.int .i64 0] 109 false)).m.g s2.nx=some (.cells [.str c.key,.str [],.int .i64 0,.int .i64 0] 109 false):=aw _ _;have n3:(St.new s2 (.cells [.str c.key,.str [],.int .i64 0,.int .i64 0] 109 false)).nx=s2.nx+1:=rfl;have r3:=r2.keep ((Kp.refl [] s2).new (.cells [.str c.key,.str [],.int .i64 0,.int .i64 0] 109 false)) rq;have Qg:(St.new s2 (.cells [.str c.key,.str [],.int .i64 0,.int .i64 0] 109 false)).m.g st.nx=_:=(ba _ _ _ pX).trans g2;generalize St.new s2 (.cells [.str c.key,.str [],.int .i64 0,.int .i64 0] 109 false)=s3 at*;have kV:=(k1.trans k2 adt).trans k3 adt;have Tz:s2.nx∉F:=λh=>by have:=hF _ h;omega
 have fin:∀(s:St),Kp F st s->st.nx<s.nx->s2.nx<s.nx->s.m.g st.nx=some (.cells [.str [],.str [],.int .i64 0,.int .i64 0] 109 false)->s.m.g s2.nx=some (.cells (aZ c) 109 false)->oo s r F L->
  us (aK 4 (.ptr s2.nx 0) s) λx6=>upon (aQ 4 (.ptr st.nx 0) x6 s) λ_ s5=>us (aK 4 (.ptr st.nx 0) s5) λx7=>x7=.agg (aZ c)/\Wh r F L st s5:=by
  intro s hk h1 h2 q1 q2 q3;rw[aR (n:=4) q2 rfl,af,aF,q1,aS,aV];have:bo [.str [],.str [],.int .i64 0,.int .i64 0] 0 (aZ c)=aZ c:=dZ _ _ rfl;rw[this];refine⟨⟨rfl,rfl,wI⟩,?_⟩;rw[aR (n:=4) (aq _ _ _) rfl,af];exact⟨rfl,hk.set _ (.inr (aDt _)) h1,q3.keep (X:=[st.nx]) ((Kp.refl _ s).set _ (.inl rq) h1) aaO⟩
 rw[cN,af,ag];cases leaf with
 |false=>
  obtain⟨h1,h2,h3⟩:=hc.inner rfl;rw[aDI,aDy rfl];simp only[aDp,aDE,aDV]at r3;refine fin s3 kV pX pX Qg ?_ r3;rw[g3];simp[aZ,h1,h2,h3]
 |true=>
  rw[aDJ,aDv wI,cK];simp only[aDQ]at r3
  by_cases h0:c.dR=0
  .obtain⟨h1,h2⟩:=hc.short rfl h0;rw[aDy h0]at r3;have e2:(uv 0++(uv c.value.length++c.value))++L=uv 0++(uv c.value.length++(c.value++L)):=by simp
   rw[e2]at r3;refine(kP (n:=0) (m:=2147483647) r3 pX pX).mono ?_;rintro _ s8 ⟨rfl,k8,n8,r8⟩;have g8:=(k8.keep s2.nx pX Tz).trans g3;have g8':=(k8.keep st.nx pX hnF).trans Qg;have kq:bo [.str c.key,.str [],.int .i64 0,.int .i64 0] 2 [I ((0:Nat):Int)]=[.str c.key,.str [],.int .i64 0,.int .i64 0]:=rfl;simp only[fst,fl,ah,af,aF,g8,aS,aDx,iL,kq,aC,aq,ar,aDq,aDo,az];refine⟨⟨rfl,rfl,rq⟩,?_⟩;have k9:Kp F st (St.set s8 s2.nx (.cells [.str c.key,.str [],.int .i64 0,.int .i64 0] 109 false)):=(kV.trans k8 adt).set _ (.inr pX) pX;have g9:(St.set s8 s2.nx (.cells [.str c.key,.str [],.int .i64 0,.int .i64 0] 109 false)).m.g s2.nx=some (.cells [.str c.key,.str [],.int .i64 0,.int .i64 0] 109 false):=aq _ _ _;have g9':(St.set s8 s2.nx (.cells [.str c.key,.str [],.int .i64 0,.int .i64 0] 109 false)).m.g st.nx=_:=(al _ _ _ _ pX).trans g8';have n9:(St.set s8 s2.nx (.cells [.str c.key,.str [],.int .i64 0,.int .i64 0] 109 false)).nx=s8.nx:=rfl;have r9:=r8.keep (X:=[s2.nx]) ((Kp.refl [s2.nx] s8).set (p:=s2.nx) (.cells [.str c.key,.str [],.int .i64 0,.int .i64 0] 109 false) (.inl rq) pX) (λb hb=>WN);generalize St.set s8 s2.nx (.cells [.str c.key,.str [],.int .i64 0,.int .i64 0] 109 false)=s9 at*;have e3:ai .eql (some .int) true (.int .i64 0) (.int .i64 0) s9=.ok (.bool true) s9:=rfl;simp only[e3,af,ag,aDQ];refine(CZ (m:=64) r9 h2 pX).mono ?_;rintro _ sa ⟨rfl,ka,na,ra⟩;have ga:=(ka.keep s2.nx pX Tz).trans g9;have ga':=(ka.keep st.nx pX hnF).trans g9';have ko:bo [.str c.key,.str [],.int .i64 0,.int .i64 0] 1 [.str c.value]=[.str c.key,.str c.value,.int .i64 0,.int .i64 0]:=rfl;simp only[aF,ga,aS,aDx,yX,ko,aH,aI];refine⟨⟨rfl,rfl,rq⟩,?_⟩
   have Ja:=fin _ ((k9.trans ka adt).set (p:=s2.nx) _ (.inr pX) pX) AI AI ((al _ _ _ (.cells [.str c.key,.str c.value,.int .i64 0,.int .i64 0] 109 false) pX).trans ga') (by rw[aq];simp[aZ,h0,h1]) (ra.keep (X:=[s2.nx]) ((Kp.refl _ sa).set (p:=s2.nx) _ (.inl rq) pX) (λb hb=>WN))
   simpa only[aF,aDx]using Ja
  .obtain⟨h1,h2,h3,h4⟩:=hc.far rfl h0;rw[aDv h0,aDY]at r3;refine(kP (n:=c.dR) (m:=2147483647) r3 h2 pX).mono ?_;rintro _ s8 ⟨rfl,k8,n8,r8⟩;have g8:=(k8.keep s2.nx pX Tz).trans g3;have g8':=(k8.keep st.nx pX hnF).trans Qg;have kq:bo [.str c.key,.str [],.int .i64 0,.int .i64 0] 2 [I c.dR]=[.str c.key,.str [],I c.dR,.int .i64 0]:=rfl;simp only[fst,fl,ah,af,aF,g8,aS,aDx,iL,kq,aC,aq,ar,aDq,aDo,az];refine⟨⟨rfl,rfl,rq⟩,?_⟩;have k9:Kp F st (St.set s8 s2.nx (.cells [.str c.key,.str [],I c.dR,.int .i64 0] 109 false)):=(kV.trans k8 adt).set _ (.inr pX) pX;have g9:(St.set s8 s2.nx (.cells [.str c.key,.str [],I c.dR,.int .i64 0] 109 false)).m.g s2.nx=some (.cells [.str c.key,.str [],I c.dR,.int .i64 0] 109 false):=aq _ _ _;have g9':(St.set s8 s2.nx (.cells [.str c.key,.str [],I c.dR,.int .i64 0] 109 false)).m.g st.nx=_:=(al _ _ _ _ pX).trans g8';have n9:(St.set s8 s2.nx (.cells [.str c.key,.str [],I c.dR,.int .i64 0] 109 false)).nx=s8.nx:=rfl;have r9:=r8.keep (X:=[s2.nx]) ((Kp.refl [s2.nx] s8).set (p:=s2.nx) (.cells [.str c.key,.str [],I c.dR,.int .i64 0] 109 false) (.inl rq) pX) (λb hb=>WN);generalize St.set s8 s2.nx (.cells [.str c.key,.str [],I c.dR,.int .i64 0] 109 false)=s9 at*;have e3:ai .eql (some .int) true (I c.dR) (.int .i64 0) s9=.ok (.bool false) s9:=by rw[ay,cz,aDr pX]
   simp only[e3,af,ag,aDp,aDE];refine(kP (n:=c.size) (m:=2147483647) r9 h4 pX).mono ?_;rintro _ sa ⟨rfl,ka,na,ra⟩;have ga:=(ka.keep s2.nx pX Tz).trans g9;have ga':=(ka.keep st.nx pX hnF).trans g9';have ko:bo [.str c.key,.str [],I c.dR,.int .i64 0] 3 [I c.size]=[.str c.key,.str [],I c.dR,I c.size]:=rfl;simp only[aF,ga,aS,aDx,iL,ko,aH,aI];refine⟨⟨rfl,rfl,rq⟩,?_⟩;have Ja:=fin _ ((k9.trans ka adt).set (p:=s2.nx) _ (.inr pX) pX) AI AI ((al _ _ _ (.cells [.str c.key,.str [],I c.dR,I c.size] 109 false) pX).trans ga') (by rw[aq];simp[aZ,h1]) (ra.keep (X:=[s2.nx]) ((Kp.refl _ sa).set (p:=s2.nx) _ (.inl rq) pX) (λb hb=>WN))
   simpa only[aF,aDx]using Ja
def bg.hasB (n:bg)(key:cn):Bool:=match n.cells[n.find key]? with|some c=>decide (c.key=key)|none=>false
def Qn {n:bg}{key:cn}(h:IsNode st [] v n)(hl:n.cells.length<=100000):R 91 [v,.str key] st λx st'=>x=.tuple [I (n.find key),.bool (n.hasB key)]/\Kp [] st st':=by
 obtain⟨vc,vk,rfl,h1,h2⟩:=h;refine bN ?_;rw[w91];rw[bW,aV];refine⟨rfl,?_⟩;have k1:Kp [] st (St.new st (.cells [.bool n.leaf,vc,vk] 105 false)):=(Kp.refl [] st).new _;have g1:(St.new st (.cells [.bool n.leaf,vc,vk] 105 false)).m.g st.nx=some (.cells [.bool n.leaf,vc,vk] 105 false):=aw _ _;have n1:(St.new st (.cells [.bool n.leaf,vc,vk] 105 false)).nx=st.nx+1:=rfl;generalize St.new st (.cells [.bool n.leaf,vc,vk] 105 false)=s1 at*;rw[bW,yX];refine⟨rfl,?_⟩;have k2:Kp [] s1 (St.new s1 (.cells [.str key] 9 false)):=(Kp.refl [] s1).new _;have g2:(St.new s1 (.cells [.str key] 9 false)).m.g s1.nx=some (.cells [.str key] 9 false):=aw _ _;have n2:(St.new s1 (.cells [.str key] 9 false)).nx=s1.nx+1:=rfl;generalize St.new s1 (.cells [.str key] 9 false)=s2 at*;have tk:=(k2.keep st.nx pX rq).trans g1;have kW:=k1.trans k2 rq;simp only[fl,ah,af,aC,tk,ar,aDx,aDq,aDo,az,mB]
 have alL:R 139 [vc,.func (.func 140) [] [.ptr s1.nx 0]] s2 λx s=>x=(if n.find key<n.cells.length then I (n.find key)else .int .i64 (-1))/\Kp [] s2 s:=by
  refine bN ?_;rw[ajH];have hlen:=(h1.mono kW).len n.cells.length (bM _) pX s2;simp only[cK,aH,aI,hlen,af];refine bK (λfu vs s=>∃i,fu+i=n.cells.length/\i<=n.find key/\vs=[vc,.func (.func 140) [] [.ptr s1.nx 0],I n.cells.length,I i]/\Kp [] s2 s) ?_ (n:=n.cells.length) ⟨0,rfl,aFH _,rfl,Kp.refl _ _⟩;rintro fu vs s k ⟨i,hi,hif,rfl,mc⟩ next;simp only[aH,aI,dq,af,ag]
  by_cases hc:i<n.cells.length
  .rw[aDz hc,aDy rfl];have YO:=kW.trans mc rq;refine(h1.mono YO).iH (L:=n.cells.map aZ) pX (fM _) Hw _ ?_;have e:(n.cells.map aZ)[i]'(by simpa using hc)=aZ n.cells[i]:=by simp
   rw[e,dM];refine bN ?_;simp only[aDV,aEp];rw[ajG];rw[bW,aV];refine⟨rfl,?_⟩;have g4:(St.new s (.cells (aZ n.cells[i]) 109 false)).m.g s.nx=some (.cells [.str n.cells[i].key,.str n.cells[i].value,I n.cells[i].dR,I n.cells[i].size] 109 false):=aw _ _;have k4:Kp [] s (St.new s (.cells (aZ n.cells[i]) 109 false)):=(Kp.refl _ s).new _;have gk:=(k4.keep s1.nx (by have:=mc.nx;omega) rq).trans ((mc.keep s1.nx pX rq).trans g2);generalize St.new s (.cells (aZ n.cells[i]) 109 false)=s4 at*;simp only[fl,ah,af,aC,g4,gk,ar,aDx,aDo,az,dY,rI,ag]
   by_cases hp:kh key n.cells[i].key
   .rw[aDz hp,aDy rfl]
    have PJ:n.find key<=i:=by
     rcases aEG i (n.find key)with h|h
     .have:=List.not_of_lt_findIdx h;simp[hp]at this
     .exact h
    have:n.find key=i:=pX
    rw[this,aDy hc];exact⟨rfl,mc.trans k4 rq⟩
   .rw[aDr hp,aDv wI,gT i pX,af];refine next (fu-1) _ _ pX ⟨i+1,pX,?_,rfl,mc.trans k4 rq⟩;rcases aFG hif with h|h
    .exfalso;have:=List.findIdx_getElem (p:=λc:dh=>decide (kh key c.key)) (xs:=n.cells) (w:=Wy);simp only[aEJ]at this;refine hp ?_;have e3:n.cells[i]=n.cells[List.findIdx (λc:dh=>decide (kh key c.key)) n.cells]'(by rw[show List.findIdx (λc:dh=>decide (kh key c.key)) n.cells=n.find key from rfl,<-h];exact hc):=by congr 1
     rw[e3];exact this
    .exact h
  .rw[aDr hc,aDv wI,aDv pX];exact⟨rfl,mc⟩
 refine alL.mono ?_;rintro _ s3 ⟨rfl,k3⟩;have kV:=kW.trans k3 rq;have qZ:=(k3.keep st.nx pX rq).trans tk;have Jk:=(k3.keep s1.nx pX rq).trans g2;have hle:n.find key<=n.cells.length:=aFC
 by_cases hf:n.find key<n.cells.length
 .rw[aDy hf];have e1:ai .lss none true (I (n.find key)) (.int .i64 0) s3=.ok (.bool false) s3:=by rw[ay,cY,aDr pX]
  obtain⟨b,p,l,t,g,q1,q2,q3,q4,q5⟩:=(h1.mono kV).cellAt (L:=n.cells.map aZ) pX (fM _) (i:=n.find key) (by simpa using hf);have q6:=q5 0 (.str n.cells[n.find key].key) aaq;rw[aEb]at q6
  have e4:n.hasB key=decide (n.cells[n.find key].key=key):=by
   unfold bg.hasB;rw[aDu hf]
  simp only[e1,af,ag,aDp,aDE,bA,ah,aC,qZ,ar,aEb,aDq,aDo,az,q1,q2,q6,Jk,dY,rJ,e4,aFw,and_true];exact kV
 .rw[aDv hf];have e1:ai .lss none true (.int .i64 (-1)) (.int .i64 0) s3=.ok (.bool true) s3:=rfl;have hlen:=(h1.mono kV).len n.cells.length (bM _) pX s3;have e2:n.find key=n.cells.length:=by omega
  have e4:n.hasB key=false:=by
   unfold bg.hasB;rw[aEl pX]
  simp only[e1,af,ag,aDQ,qZ,ar,aDq,aDo,az,hlen,e4,e2];exact⟨adu,kV⟩
end
end
