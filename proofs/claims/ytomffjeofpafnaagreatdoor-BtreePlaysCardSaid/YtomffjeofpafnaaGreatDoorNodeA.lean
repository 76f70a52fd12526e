import Derived.Test.YtomffjeofpafnaaGreatDoorTree
import Derived.Test.YtomffjeofpafnaaGreatDoorPagB
namespace Lim
open Go
noncomputable section
set_option maxRecDepth 100000
theorem Ix (st:St)(x y:qJ):St.set (St.new st x) st.next y=St.new st y:=by
 simp only[St.set,St.new,St.mk.injEq,and_true];exact PT.ext fun p=>by simp only[PT.eO];split<;>rfl
theorem tn {t n:Nat}{z T:List CV}{s:St}{K:CV->St->Prop}(hz:z.length=n)(hl:T.length=n)(ho:aV T=true)(hK:K (.ptr s.next 0) (St.new s (.cells T t false))):upon (dD t z s) fun x s2=>upon (aP n x (.agg T) s2) fun _ s3=>K x s3:=by
 rw[cG,aS,aF,au];have:bp z 0 T=T:=dY _ _ (by omega);rw[aR,aX,this,Ix];exact⟨⟨hl,ho,by omega⟩,hK⟩
def aU (c:dh):List CV:=[.str c.key, .str c.value,I c.dL,I c.size]
def bC (l:List dh):List CV:=(l.map aU).flatten
def ck (l:List Nat):List CV:=l.map fun n:Nat=>I n
theorem fJ (l:List dh):∀x∈l.map aU,x.length=4:=by
 intro x hx;obtain⟨c,_,rfl⟩:=aBd.1 hx;rfl
theorem bL (l:List dh):(bC l).length=l.length*4:=by unfold bC;rw[fw (fJ l)];simp
@[simp] theorem oY (l:List Nat):(ck l).length=l.length:=by simp[ck]
theorem gS (a b:List dh):bC (a++b)=bC a++bC b:=by simp[bC]
theorem mT (a b:List Nat):ck (a++b)=ck a++ck b:=by simp[ck]
theorem kz (l:List dh)(i:Nat)(h:i<=l.length):(bC l).take (i*4)=bC (l.take i):=by
 unfold bC;rw[mY (fJ l) i (by simpa using h),aCk]
theorem kD (l:List dh)(i:Nat)(h:i<=l.length):(bC l).drop (i*4)=bC (l.drop i):=by
 unfold bC;rw[lK (fJ l) i (by simpa using h),aBZ]
theorem tY (l:List Nat)(i:Nat):(ck l).take i=ck (l.take i):=by unfold ck;rw[aCk]
theorem tZ (l:List Nat)(i:Nat):(ck l).drop i=ck (l.drop i):=by unfold ck;rw[aBZ]
@[simp] theorem gp (c:dh):aV (aU c)=true:=rfl
@[simp] theorem eM (l:List dh):aV (bC l)=true:=by
  induction l with
  |nil=>rfl
  |cons c l ih=>
   have:bC (c::l)=aU c++bC l:=by simp[bC]
   rw[this,qt,ih];rfl
@[simp] theorem jc (l:List Nat):aV (ck l)=true:=by
  induction l with
  |nil=>rfl
  |cons c l ih=>show(cr (I c)&&aV (ck l))=true;rw[ih];rfl
section
variable {st st':St}
theorem Sl.iT {X:List Nat}{v:CV}{k:Nat}{L:List (List CV)}(hs:Sl st X v k L.flatten)(hk:0<k)(hw:∀x∈L,x.length=k){i:Nat}(hi:i<L.length)(Q:CV->Prop)(hq:Q (.agg L[i])):Lim.iT k k v (I i) st Q:=by
 have hlen:=fw hw;rcases hs with⟨rfl,h⟩|⟨b,off,len,cap,grow,rfl,h2,h3,h4⟩
 ·rw[h]at hlen;have:0<L.length*k:=Nat.mul_pos (by omega) hk;simp at hlen;omega
 ·have:len=L.length:=aBG hk (by rw[<-h2,hlen]);subst this;rcases h4 with h4|⟨_,_,l,t,g,h7,h8,h9⟩
  ·omega
  ·unfold Lim.iT;rw[gf hi (.inr h3.1)]
   have E8:i*k+k<=L.length*k:=by
    calc i*k+k=(i+1)*k:=by rw[aBI,aCH]
     _<=L.length*k:=aBu k hi
   simp only[af,oN,h7,aq,rf];refine⟨by omega, ?_⟩
   have e:(l.drop (off+i*k)).take k=L[i]:=by
    rw[<-ry hw i hi,<-h9,aCq,aCU,aBN,aBq (by omega)]
   rw[e];exact hq
theorem Sl.cellAt {X:List Nat}{v:CV}{k:Nat}{L:List (List CV)}(hs:Sl st X v k L.flatten)(hk:0<k)(hw:∀x∈L,x.length=k){i:Nat}(hi:i<L.length):∃b p l t g,(∀s,cQ k v (I i) s= .ok (.ptr b p) s)/\st.mem.get b=some (.cells l t g)/\b<st.next/\b∉X/\∀o x,L[i][o]?=some x->l[p+o]?=some x:=by
 have hlen:=fw hw;rcases hs with⟨rfl,h⟩|⟨b,off,len,cap,grow,rfl,h2,h3,h4⟩
 ·rw[h]at hlen;have:0<L.length*k:=Nat.mul_pos (by omega) hk;simp at hlen;omega
 ·have:len=L.length:=aBG hk (by rw[<-h2,hlen]);subst this;rcases h4 with h4|⟨h5,h6,l,t,g,h7,h8,h9⟩
  ·omega
  ·refine⟨b,off+i*k,l,t,g,gf hi (.inr h3.1),h7,h6,h5,fun o x hx=> ?_⟩
   have E8:i*k+k<=L.length*k:=by
    calc i*k+k=(i+1)*k:=by rw[aBI,aCH]
     _<=L.length*k:=aBu k hi
   have ho:o<k:=by
    obtain⟨h,_⟩:=aAP.1 hx;rw[hw _ (aAW hi)]at h;exact h
   rw[<-hx,<-OB hw i hi o ho,<-h9,aCB,aAI (by omega),aDd]
   congr 1;omega
def IsNode (st:St)(X:List Nat)(v:CV)(n:bg):Prop:=∃vc vk,v= .agg [.bool n.leaf,vc,vk]/\Sl st X vc 4 (bC n.cells)/\Sl st X vk 1 (ck n.kids)
theorem IsNode.mono {X:List Nat}{v:CV}{n:bg}(h:IsNode st X v n)(hk:Kp X st st'):IsNode st' X v n:=by
 obtain⟨vc,vk,h1,h2,h3⟩:=h;exact⟨vc,vk,h1,h2.mono hk,h3.mono hk⟩
theorem IsNode.dM {X Y:List Nat}{v:CV}{n:bg}(h:IsNode st X v n)(hy:∀q∈Y,q∈X\/st.next<=q):IsNode st Y v n:=by
 obtain⟨vc,vk,h1,h2,h3⟩:=h;exact⟨vc,vk,h1,h2.dM hy,h3.dM hy⟩
theorem zn {n least:Nat}:R 186 [I n,I least] st fun v st'=>v= .bool (decide (least<=n/\n<=pT))/\st'=st:=by
 refine bN ?_;rw[agy]
 by_cases h1:least<=n
 ·have e1:(least:Int)<=n:=by omega
  have e2:((n:Int)<=2147483647)↔n<=pT:=by show _↔n<=2147483647;omega
  simp[h1,e1,e2]
 ·have e1:¬(least:Int)<=n:=by omega
  simp[h1,e1]
theorem VE {c:dh}{leaf:Bool}(h:c.ok leaf):R 183 [.agg (aU c), .bool leaf] st fun v st'=>v= .bool true/\Kp [] st st':=by
 refine bN ?_;rw[agB];rw[cn,aX];refine⟨rfl, ?_⟩;have k1:Kp [] st (St.new st (.cells (aU c) 109 false)):=(Kp.refl [] st).new _;have g1:(St.new st (.cells (aU c) 109 false)).mem.get st.next=some (.cells [.str c.key, .str c.value,I c.dL,I c.size] 109 false):=au _ _;generalize St.new st (.cells (aU c) 109 false)=s1 at*;have e0:¬(48:Int)<c.key.length:=by have:=h.key;omega
 simp only[fl,ah,af,aA,g1,aq,aAF,aAy,av,fe,aw,dq,e0,aCi,ag,aAz,aAO,dm];cases leaf with
 |false=>
  obtain⟨h1,h2,h3⟩:=h.inner rfl;rw[aAT,aAI rfl,aQ (n:=4) g1 rfl,af];simp[dN,cF,bp,uU,mK,Df,iR,andThen,ig,h1,h2,h3,k1]
 |true=>
  rw[aAU,aAH (by decide)]
  by_cases h0:c.dL=0
  ·obtain⟨h1,h2⟩:=h.short rfl h0;have e1:(c.value.length:Int)<=64:=by omega
   simp[h0,h1,g1,jI,e1,k1]
  ·obtain⟨h1,h2,h3,h4⟩:=h.far rfl h0;have e1:¬(c.dL:Int)=0:=by omega
   simp[e1,h1,g1,jI,h0];refine(zn (n:=c.dL) (least:=1)).same ?_;have e2:1<=c.dL:=by omega
   have e3:decide (1<=c.dL/\c.dL<=pT)=true:=aAJ ⟨e2,h2⟩;have e4:decide (1<=c.size/\c.size<=pT)=true:=aAJ ⟨h3,h4⟩;simp only[e3,g1,af,aG,aAY,aH,bo,fh,aA,aq,ah,aAF,aAA,aAy,av];refine(zn (n:=c.size) (least:=1)).same ?_;simp only[e4,af,aG,aAY];exact⟨trivial,k1⟩
end
section
variable {st st':St}
theorem gF (i:Nat)(h:i<=4000000000000000000)(s:St)(d:Option jL):aj .add d true (I i) (.int .i64 1) s= .ok (I ((i+1:Nat):Int)) s:=by rw[aw,cE,bz (by omega)];rfl
theorem xS (i:Nat)(h:i<=4000000000000000000)(h0:0<i)(s:St)(d:Option jL):aj .sub d true (I i) (.int .i64 1) s= .ok (I ((i-1:Nat):Int)) s:=by rw[aw,dW,bz (by omega)];congr 2;omega
theorem dv (i n:Nat)(s:St)(d:Option jL)(c:Bool):aj .lss d c (I i) (I n) s= .ok (.bool (decide (i<n))) s:=by rw[aw,cP];congr 2;simp only[aBc];omega
theorem Q0 {X:List Nat}{v:CV}{l:List Nat}(hs:Sl st X v 1 (ck l))(hl:l.length<=1000000)(hk:∀k∈l,k<=pT):R 184 [v, .func (.func 185) [] []] st fun x st'=>x= .bool false/\Kp [] st st':=by
 refine bN ?_;rw[agA]
 have key:R 202 [v, .func (.func 185) [] []] st fun x st'=>x= .int .i64 (-1)/\Kp [] st st':=by
  refine bN ?_;rw[agq];have hlen:=hs.len l.length (by simp) (by omega) st;simp only[cN,aJ,aK,hlen,af];refine bK (fun fu vs s=>∃i,fu+i=l.length/\vs=[v, .func (.func 185) [] [],I l.length,I i]/\Kp [] st s) ?_ (n:=l.length) ⟨0,rfl,rfl,Kp.refl _ _⟩;rintro fu vs s k ⟨i,hi,rfl,px⟩ next;simp only[aJ,aK,dv,af,ag]
  by_cases hc:i<l.length
  ·rw[aAJ hc,aAI rfl];have Gi:=(hs.dM (Y:=[]) (by simp)).mono px;refine Gi.idx (i:=i) (by simpa using hc) _ ?_;have e:(ck l)[i]'(by simpa using hc)=I l[i]:=by simp[ck]
   rw[e,dP];simp only[aBf,aBz];refine bN ?_;rw[agz];refine(zn (n:=l[i]) (least:=0)).same ?_;have e2:decide (0<=l[i]/\l[i]<=pT)=true:=aAJ ⟨by omega,hk _ (aAW hc)⟩;simp only[e2,dm,af,aAU,ag,aAz,aAO,gF i (by omega)];exact next (fu-1) _ _ (by omega) ⟨i+1,by omega,rfl,px⟩
  ·rw[aAB hc,aAH (by decide)];exact⟨trivial,px⟩
 refine key.mono ?_;rintro _ s ⟨rfl,h⟩;simp[h]
theorem zs {v:CV}{n:bg}(h:IsNode st [] v n)(hn:n.ok)(hl:n.cells.length<=100000):R 145 [v] st fun x st'=>x= .bool true/\Kp [] st st':=by
 obtain⟨vc,vk,rfl,h1,h2⟩:=h;refine bN ?_;rw[ahd];rw[cn,aX];refine⟨rfl, ?_⟩;have k1:Kp [] st (St.new st (.cells [.bool n.leaf,vc,vk] 105 false)):=(Kp.refl [] st).new _;have g1:(St.new st (.cells [.bool n.leaf,vc,vk] 105 false)).mem.get st.next=some (.cells [.bool n.leaf,vc,vk] 105 false):=au _ _;have n1:(St.new st (.cells [.bool n.leaf,vc,vk] 105 false)).next=st.next+1:=rfl;generalize St.new st (.cells [.bool n.leaf,vc,vk] 105 false)=s1 at*;have hlen:=(h1.mono k1).len n.cells.length (bL _) (by omega) s1;simp only[cN,aJ,aK,fl,ah,af,aA,g1,aq,aAF,aAA,aAy,av,hlen];refine bK (fun fu vs s=>∃i,fu+i=n.cells.length/\vs=[.ptr st.next 0,vc,I n.cells.length,I i]/\Kp [] s1 s) ?_ (n:=n.cells.length) ⟨0,rfl,rfl,Kp.refl _ _⟩;rintro fu vs s k ⟨i,hi,rfl,hk⟩ next;have g2:=(hk.keep st.next (by omega) (by simp)).trans g1;have lI:Kp [] st s:=k1.trans hk (by simp);simp only[aJ,aK,dv,af,ag]
 by_cases hc:i<n.cells.length
 ·rw[aAJ hc,aAI rfl];refine(h1.mono lI).iT (L:=n.cells.map aU) (by omega) (fJ _) (by simpa using hc) _ ?_;have e:(n.cells.map aU)[i]'(by simpa using hc)=aU n.cells[i]:=by simp
  rw[e];refine tn rfl rfl (gp _) ?_;have k3:Kp [] s (St.new s (.cells (aU n.cells[i]) 109 false)):=(Kp.refl _ s).new _;have g3:(St.new s (.cells (aU n.cells[i]) 109 false)).mem.get s.next=some (.cells [.str n.cells[i].key, .str n.cells[i].value,I n.cells[i].dL,I n.cells[i].size] 109 false):=au _ _;have n3:(St.new s (.cells (aU n.cells[i]) 109 false)).next=s.next+1:=rfl;generalize St.new s (.cells (aU n.cells[i]) 109 false)=s3 at*;have g2':=(k3.keep st.next (by have:=lI.next;have:=hk.next;omega) (by simp)).trans g2;rw[bt,aQ (n:=4) g3 rfl];simp only[af,ah,aA,g2',aq,aAF,aAy,av];refine(VE (hn.cell _ (aAW hc))).mono ?_;rintro _ s6 ⟨rfl,k6⟩;have CP:Kp [] s1 s6:=(hk.trans k3 (by simp)).trans k6 (by simp);have akW:Kp [] st s6:=k1.trans CP (by simp);have Ot:=(k6.keep s.next (by omega) (by simp)).trans g3;have g6:=(CP.keep st.next (by omega) (by simp)).trans g1;have e1:aj .gtr none true (I i) (.int .i64 0) s6= .ok (.bool (decide (0<i))) s6:=by rw[aw,dq];congr 2;simp only[aBc];omega
  simp only[dm,af,aAU,aH,aAz,aAO,aAT,bo,e1]
  by_cases h0:0<i
  ·rw[aAJ h0];obtain⟨b,p,cl,ct,cg,q1,q2,_,_,q3⟩:=((h1.mono akW)).cellAt (L:=n.cells.map aU) (by omega) (fJ _) (i:=i-1) (by simp;omega);have q4:=q3 0 (.str n.cells[i-1].key) (by simp[aU]);rw[aBl]at q4;simp only[aAY,bo,ah,af,aA,g6,aq,aAF,aBl,aAA,aAy,av,xS i (by omega) h0,q1,q2,q4];have hlt:eC n.cells[i-1].key n.cells[i].key:=aCT.1 hn.sorted _ _ _ _ (by omega);have e9:¬jY n.cells[i].key n.cells[i-1].key:=fun h=>h hlt;simp only[Ot,aq,aAF,aAy,av,dX,qW,e9,aCi,af,aG,aAY,aAz,aAO,ag,gF i (by omega)];refine⟨⟨trivial,trivial,trivial,trivial,trivial,trivial⟩,trivial, ?_⟩;exact next (fu-1) _ _ (by omega) ⟨i+1,by omega,rfl,CP⟩
  ·rw[aAB h0];simp only[aAz,aAO,aAY,cB,af,aG,ag,gF i (by omega)];refine⟨⟨trivial,trivial,trivial,trivial,trivial,trivial⟩,trivial, ?_⟩;exact next (fu-1) _ _ (by omega) ⟨i+1,by omega,rfl,CP⟩
 ·rw[aAB hc,aAH (by decide)];have abR:=(h1.mono lI).len n.cells.length (bL _) (by omega) s;have NI:=(h2.mono lI).len n.kids.length (by simp) (by omega) s;have qB:=hn.jf;simp only[ah,af,aA,g2,aq,aAF,aAA,aAy,av,abR,gF n.cells.length (by omega),ag,aJ,aK];have Gp:n.kids.length<=1000000:=by rw[qB];split<;>omega
  have fin:∀m:Nat,n.kids.length=m->
   us (bh .slice vk s) (fun jN=>us (aj BinOp.eql (some jL.int) false jN (CV.int IntKind.i64 m) s) fun jq=>
    jI (ak true jq) 2 (CV.ptr st.next 0) s fun iV=>fp (ak true jq) s (fun k=>R 184 [iV,CV.func (Fn.func 185) [] []] s k) fun jK s8=>us (aY (ak true jq) s8 (lj UnOp.not jK s8)) fun jM=>us (ba jq jM (CV.bool false) s8) fun jn=>jn=CV.bool true/\Kp [] st s8):=by
   intro m hm;have e5:aj .eql (some .int) false (I n.kids.length) (.int .i64 m) s= .ok (.bool true) s:=by rw[aw,cz,aAJ (by omega)]
   simp only[NI,af,e5,aH,aAY,jI,bo,fh,ah,aA,g2,aq,aAF,aAA,aAy,av];refine(Q0 (h2.mono lI) Gp hn.A8).mono ?_;rintro _ s8 ⟨rfl,k8⟩;simp only[dm,af,aG,aAY,aAT];exact⟨trivial,lI.trans k8 (by simp)⟩
  cases fV:n.leaf with
  |true=>rw[aAI rfl];rw[fV,aAI rfl]at qB;exact fin 0 qB
  |false=>rw[aAH (by decide)];rw[fV,aAH (by decide)]at qB;exact fin _ qB
end
section
variable {st st':St}
theorem Made.after {k e:Nat}{L:List CV}{s0 s s':St}{x:CV}(h:Kp [] s0 s)(m:Made k e L s x s'):Made k e L s0 x s':=by
 obtain⟨F,h1,h2,h3⟩:=m;exact⟨F,h.trans h1 (by simp),h2,fun b hb=>⟨by have:=(h3 b hb).1;have:=h.next;omega,(h3 b hb).2⟩⟩
theorem Made.kp {k e:Nat}{L:List CV}{s0 s:St}{x:CV}(m:Made k e L s0 x s):Kp [] s0 s:=by obtain⟨F,h1,_⟩:=m;exact h1
theorem Made.keep {k e:Nat}{L:List CV}{s0 s s':St}{x:CV}(m:Made k e L s0 x s)(h:Kp [] s s'):Made k e L s0 x s':=by
 obtain⟨F,h1,h2,h3⟩:=m;exact⟨F,h1.trans h (by simp),h2.keep h fun b hb=>⟨(h3 b hb).2,by simp⟩,fun b hb=>⟨(h3 b hb).1,by have:=(h3 b hb).2;have:=h.next;omega⟩⟩
theorem sF {s0:St}{v l:CV}{b:List UInt8}{ks:List Nat}(hm:Made 1 5 (ai b) s0 v st)(hl:Sl st [] l 1 (ck ks))(hk:∀k∈ks,k<=pT)(Gp:ks.length<=10000)(hb:b.length<=800000):R 187 [v,l] st fun x st'=>Made 1 5 (ai (b++eK ks)) s0 x st'/\Kp [] st st':=by
 refine bN ?_;rw[agx];have hlen:=hl.len ks.length (by simp) (by omega) st;simp only[cN,aJ,aK,hlen,af];refine bK (fun fu vs s=>∃i x,fu+i=ks.length/\vs=[x,l,I ks.length,I i]/\Made 1 5 (ai (b++eK (ks.take i))) s0 x s/\Kp [] st s) ?_ (n:=ks.length) ⟨0,v,rfl,rfl,by simpa[eK]using hm,Kp.refl _ _⟩;rintro fu vs s k ⟨i,x,hi,rfl,hx,lI⟩ next;simp only[aJ,aK,dv,af,ag]
 by_cases hc:i<ks.length
 ·rw[aAJ hc,aAI rfl];refine(hl.mono lI).idx (i:=i) (by simpa using hc) _ ?_;have e:(ck ks)[i]'(by simpa using hc)=I ks[i]:=by simp[ck]
  rw[e];have hki:=hk _ (aAW hc);have sY:=oZ (l:=ks.take i) fun k h=>hk k (aBp h);rw[aAN]at sY;have HH:min i ks.length<=10000:=by omega
  refine(rB (hx.sl [] (by simp)) (n:=ks[i]) (by rw[aAG];omega) hki).mono ?_;intro x' s' Ak;simp only[gF i (by omega),af];refine next (fu-1) _ _ (by omega) ⟨i+1,x',by omega,rfl, ?_,lI.trans Ak.kp (by simp)⟩
  have e2:b++eK (ks.take (i+1))=b++eK (ks.take i)++uv ks[i]:=by
   rw[aAR hc,ix];simp[eK]
  rw[e2];exact Ak.after hx.kp
 ·rw[aAB hc,aAH (by decide)];have:ks.take i=ks:=aAK (by omega);rw[this]at hx;exact⟨hx,lI⟩
structure BA (n:bg):Prop where
 cell:∀c∈n.cells,c.ok n.leaf
 A8:∀k∈n.kids,k<=pT
 cells:n.cells.length<=1000
 kids:n.kids.length<=1001
theorem vC {v:CV}{n:bg}(hf:cY st)(h:IsNode st [] v n)(hn:BA n):R 146 [v] st (Made 1 5 (ai (ma n)) st):=by
 obtain⟨vc,vk,rfl,h1,h2⟩:=h;refine bN ?_;rw[ahc];rw[cn,aX];refine⟨rfl, ?_⟩;have k1:Kp [] st (St.new st (.cells [.bool n.leaf,vc,vk] 105 false)):=(Kp.refl [] st).new _;have g1:(St.new st (.cells [.bool n.leaf,vc,vk] 105 false)).mem.get st.next=some (.cells [.bool n.leaf,vc,vk] 105 false):=au _ _;have n1:(St.new st (.cells [.bool n.leaf,vc,vk] 105 false)).next=st.next+1:=rfl;have f1:cY (St.new st (.cells [.bool n.leaf,vc,vk] 105 false)):=hf.new _;generalize St.new st (.cells [.bool n.leaf,vc,vk] 105 false)=s1 at*;have k2:Kp [] s1 (St.skip s1):=(Kp.refl [] s1).skip;have im:(St.skip s1).mem.get s1.next=none:=f1 _ (aAE _);have g2:(St.skip s1).mem.get st.next=some (.cells [.bool n.leaf,vc,vk] 105 false):=g1;have n2:(St.skip s1).next=s1.next+1:=rfl;have f2:cY (St.skip s1):=f1.skip;rw[bt];generalize St.skip s1=s2 at*;simp only[ah,af,aA,g2,aq,aAF,aAA,aAy,av];have HG:Sl s2 [] .ae 1 (ai []):= .inl ⟨rfl,rfl⟩;refine(OC (f:=n.leaf) HG (by simp)).mono ?_;intro x4 s3 m3;rw[aBf]at m3;have k3:=m3.kp;have n3:=k3.next;have g3:=(k3.keep st.next (by omega) (by simp)).trans g2;have Wy:s3.mem.get s1.next=none:=(k3.keep s1.next (by omega) (by simp)).trans im;have HK:Kp [] st s3:=((k1.trans k2 (by simp)).trans k3 (by simp));have hlen:=(h1.mono HK).len n.cells.length (bL _) (by omega) s3;simp only[g3,aq,aAA,aAy,av,hlen,af];have yZ:fX [(0,1,I n.cells.length)] (cH 1 [(.int .i64 0)])=some [I n.cells.length]:=rfl;rw[jb Wy yZ,aS];have k4:Kp [s1.next] s3 (St.set s3 s1.next (.cells [I n.cells.length] 3 false)):=(Kp.refl _ s3).set _ (.inl (by simp)) (by omega);have g4:(St.set s3 s1.next (.cells [I n.cells.length] 3 false)).mem.get s1.next=some (.cells [I n.cells.length] 3 false):=ao _ _ _;have n4:(St.set s3 s1.next (.cells [I n.cells.length] 3 false)).next=s3.next:=rfl;have g4':(St.set s3 s1.next (.cells [I n.cells.length] 3 false)).mem.get st.next=some (.cells [.bool n.leaf,vc,vk] 105 false):=(al _ _ _ _ (by omega)).trans g3
 have RM:Kp [] st (St.set s3 s1.next (.cells [I n.cells.length] 3 false)):=HK.set _ (.inr (by omega)) (by omega)
 have m4:Made 1 5 (ai (uv (if n.leaf=true then 1 else 0))) st x4 (St.set s3 s1.next (.cells [I n.cells.length] 3 false)):=by
  obtain⟨F,a1,a2,a3⟩:=m3;exact⟨F,RM,a2.mono fun b hb=>al _ _ _ _ (by have:=(a3 b hb).1;omega),fun b hb=>⟨by have:=(a3 b hb).1;omega,(a3 b hb).2⟩⟩
 generalize St.set s3 s1.next (.cells [I n.cells.length] 3 false)=s4 at*;have ajL:Sl s4 [] (.slice s1.next 0 1 1 0) 1 (ck [n.cells.length]):= .inr ⟨s1.next,0,1,1,0,rfl,rfl,⟨aAE _, .inl rfl⟩, .inr ⟨by simp,by omega,_,_,_,g4,by simp,rfl⟩⟩;have qx:=hn.cells;have YP:(uv (if n.leaf=true then 1 else 0)).length=1:=eI (by split<;>omega);refine(sF m4 ajL (by intro k hk;simp at hk;show k<=2147483647;omega) (by simp) (by omega)).mono ?_;rintro x9 s5 ⟨m5,Rg⟩;have akX:eK [n.cells.length]=uv n.cells.length:=by simp[eK]
 rw[akX]at m5;have k5:=m5.kp;have g5:=(Rg.keep st.next (by omega) (by simp)).trans g4';have NK:=(h1.mono k5).len n.cells.length (bL _) (by omega) s5;have V5:(uv n.cells.length).length<=2:=pE (by omega);simp only[im,g2,aq,av,aAA,aAy,aCC,cN,aJ,aK,fl,ah,af,aA,aAF,g5,g4',NK];refine bK (fun fu vs s=>∃i x,fu+i=n.cells.length/\vs=[.ptr st.next 0,x,vc,I n.cells.length,I i]/\Made 1 5 (ai (uv (if n.leaf=true then 1 else 0)++uv n.cells.length++cK n.leaf (n.cells.take i))) st x s/\s.mem.get st.next=some (.cells [.bool n.leaf,vc,vk] 105 false)/\st.next<s.next) ?_ (n:=n.cells.length) ⟨0,x9,rfl,rfl,by simpa[cK]using m5,g5,by have:=Rg.next;omega⟩;rintro fu vs s k ⟨i,x,hi,rfl,hx,gs,hns⟩ next;simp only[aJ,aK,dv,af,ag];have lI:=hx.kp;have NO:cY s:=lI.fresh hf
 by_cases hc:i<n.cells.length
 ·rw[aAJ hc,aAI rfl];refine(h1.mono lI).iT (L:=n.cells.map aU) (by omega) (fJ _) (by simpa using hc) _ ?_;have e:(n.cells.map aU)[i]'(by simpa using hc)=aU n.cells[i]:=by simp
  rw[e];refine tn rfl rfl (gp _) ?_;have CW:=hn.cell _ (aAW hc);have hle:=mZ (leaf:=n.leaf) (l:=n.cells.take i) fun c h=>hn.cell c (aBp h);rw[aAN]at hle;have HH:min i n.cells.length<=1000:=by omega
  have e2:cK n.leaf (n.cells.take (i+1))=cK n.leaf (n.cells.take i)++hU n.leaf n.cells[i]:=by
   rw[aAR hc,eh];simp[cK]
  have hB:∀r:List UInt8,r=hU n.leaf n.cells[i]->(uv (if n.leaf=true then 1 else 0)++uv n.cells.length++cK n.leaf (n.cells.take i))++r=uv (if n.leaf=true then 1 else 0)++uv n.cells.length++cK n.leaf (n.cells.take (i+1)):=fun r hr=>by rw[hr,e2];simp
  generalize dn:uv (if n.leaf=true then 1 else 0)++uv n.cells.length++cK n.leaf (n.cells.take i)=pre at*;have apG:pre.length<=200000:=by rw[<-dn,aAG,aAG];omega
  generalize n.cells[i]=c at*;have k3:Kp [] s (St.new s (.cells (aU c) 109 false)):=(Kp.refl _ s).new _;have g3:(St.new s (.cells (aU c) 109 false)).mem.get s.next=some (.cells [.str c.key, .str c.value,I c.dL,I c.size] 109 false):=au _ _;have n3:(St.new s (.cells (aU c) 109 false)).next=s.next+1:=rfl;generalize St.new s (.cells (aU c) 109 false)=sa at*;have gsa:=(k3.keep st.next hns (by simp)).trans gs;simp only[fl,ah,af,aA,g3,aq,aAF,aAy,av];have Gp:=CW.key;refine(BK ((hx.keep k3).sl [] (by simp)) (by omega) (s:=c.key) (by omega)).mono ?_;intro dZ sb mb;have kb:=mb.kp;have EU:=kb.next;have gb:=(kb.keep st.next (by omega) (by simp)).trans gsa;have gc:=(kb.keep s.next (by omega) (by simp)).trans g3;have WG:Made 1 5 (ai (pre++(uv c.key.length++c.key))) st dZ sb:=mb.after (lI.trans k3 (by simp));have Py:(uv c.key.length).length=1:=eI (by omega);simp only[gb,aq,av,aAy,dm,af,ag];cases fV:n.leaf with
  |false=>
   rw[aAT,aAI rfl,gF i (by omega),af];rw[fV]at hB;refine next (fu-1) _ _ (by omega) ⟨i+1,dZ,by omega,rfl, ?_,by rw[gb,fV],by omega⟩;rw[fV,<-hB _ rfl];have:hU false c=uv c.key.length++c.key:=by unfold hU;simp
   rw[this];exact WG
  |true=>
   rw[aAU,aAH (by decide)];rw[fV]at hB CW;have hfb:cY sb:=WG.kp.fresh hf;simp only[gc,aq,av,aAA,aAy]
   by_cases h0:c.dL=0
   ·obtain⟨Gi,LD⟩:=CW.short rfl h0;have e5:aj .eql (some .int) true (I c.dL) (.int .i64 0) sb= .ok (.bool true) sb:=by rw[h0];rfl
    simp only[e5,af,ag,aAY,bt];have PD:(St.skip sb).mem.get sb.next=none:=hfb _ (aAE _);have alD:fX [(0,1,(.int .i64 0))] (cH 1 [(.int .i64 0)])=some [I ((0:Nat):Int)]:=rfl;rw[jb PD alD,aS];have kd:Kp [] sb (St.set (St.skip sb) sb.next (.cells [I ((0:Nat):Int)] 3 false)):=((Kp.refl _ sb).skip).set _ (.inr (aAE _)) (by simp);have gd:(St.set (St.skip sb) sb.next (.cells [I ((0:Nat):Int)] 3 false)).mem.get sb.next=some (.cells [I ((0:Nat):Int)] 3 false):=ao _ _ _;have nd:(St.set (St.skip sb) sb.next (.cells [I ((0:Nat):Int)] 3 false)).next=sb.next+1:=rfl;generalize St.set (St.skip sb) sb.next (.cells [I ((0:Nat):Int)] 3 false)=sd at*;have Wf:Sl sd [] (.slice sb.next 0 1 1 0) 1 (ck [0]):= .inr ⟨sb.next,0,1,1,0,rfl,rfl,⟨aAE _, .inl rfl⟩, .inr ⟨by simp,by omega,_,_,_,gd,by simp,rfl⟩⟩;refine(sF (WG.keep kd) Wf (by intro k hk;simp at hk;show k<=2147483647;omega) (by simp) (by rw[aAG,aAG];omega)).mono ?_;rintro gu se ⟨me,ke⟩;have akY:eK [0]=uv 0:=by simp[eK]
    rw[akY]at me;have gL:=ke.next;have gd':=(kd.keep s.next (by omega) (by simp)).trans gc;have ge:=(ke.keep s.next (by omega) (by simp)).trans gd';have ge':=(ke.keep st.next (by omega) (by simp)).trans ((kd.keep st.next (by omega) (by simp)).trans gb);have V6:(uv 0).length=1:=eI (by omega);simp only[ah,af,aA,gd',ge,aq,aAF,aAA,aAy,av];refine(BK (me.sl [] (by simp)) (by rw[aAG,aAG,aAG];omega) (s:=c.value) (by omega)).mono ?_;intro gP sf mf;have kf:=mf.kp;have hnf:=kf.next;have gf':=(kf.keep st.next (by omega) (by simp)).trans ge';simp only[gF i (by omega),af,PD,and_true,aCC];refine next (fu-1) _ _ (by omega) ⟨i+1,gP,by omega,rfl, ?_,by rw[gf',fV],by omega⟩;rw[fV,<-hB _ rfl];have:hU true c=uv c.key.length++(c.key++(uv 0++(uv c.value.length++c.value))):=by unfold hU;simp[h0]
    rw[this];have:=mf.after me.kp
    simpa using this
   ·obtain⟨Gi,LD,LC,hs4⟩:=CW.far rfl h0;have e5:aj .eql (some .int) true (I c.dL) (.int .i64 0) sb= .ok (.bool false) sb:=by rw[aw,cz,aAB (by omega)]
    simp only[e5,af,ag,aAz,aAO];have LK:bQ 3 2 (cH 2 [(.int .i64 0)]) [(0,1,I c.dL),(1,1,I c.size)] sb= .ok (.slice sb.next 0 2 2 0) (St.new sb (.cells [I c.dL,I c.size] 3 false)):=rfl;rw[LK,aS];have kd:Kp [] sb (St.new sb (.cells [I c.dL,I c.size] 3 false)):=(Kp.refl _ sb).new _;have gd:(St.new sb (.cells [I c.dL,I c.size] 3 false)).mem.get sb.next=some (.cells [I c.dL,I c.size] 3 false):=au _ _;have nd:(St.new sb (.cells [I c.dL,I c.size] 3 false)).next=sb.next+1:=rfl;generalize St.new sb (.cells [I c.dL,I c.size] 3 false)=sd at*;have Wf:Sl sd [] (.slice sb.next 0 2 2 0) 1 (ck [c.dL,c.size]):= .inr ⟨sb.next,0,2,2,0,rfl,rfl,⟨aAE _, .inl rfl⟩, .inr ⟨by simp,by omega,_,_,_,gd,by simp,rfl⟩⟩;refine(sF (WG.keep kd) Wf (by intro k hk;simp at hk;rcases hk with rfl|rfl<;>assumption) (by simp) (by rw[aAG,aAG];omega)).mono ?_;rintro jC se ⟨me,ke⟩;have gL:=ke.next;have ge':=(ke.keep st.next (by omega) (by simp)).trans ((kd.keep st.next (by omega) (by simp)).trans gb);simp only[gF i (by omega),af];refine next (fu-1) _ _ (by omega) ⟨i+1,jC,by omega,rfl, ?_,by rw[ge',fV],by omega⟩;rw[fV,<-hB _ rfl];have:hU true c=uv c.key.length++(c.key++(uv c.dL++uv c.size)):=by unfold hU;simp[h0]
    rw[this];have e6:eK [c.dL,c.size]=uv c.dL++uv c.size:=by simp[eK]
    rw[e6]at me
    simpa using me
 ·rw[aAB hc,aAH (by decide)];have ht:n.cells.take i=n.cells:=aAK (by omega);rw[ht]at hx;simp only[fl,ah,af,aA,gs,aq,aAF,aAA,aAy,av,ag];have hle:=mZ (leaf:=n.leaf) (l:=n.cells) hn.cell;cases fV:n.leaf with
  |true=>
   rw[aAI rfl];rw[fV]at hx;unfold ma;rw[fV]
   simpa using hx
  |false=>
   rw[aAH (by decide)];refine(sF hx (h2.mono lI) hn.A8 (by have:=hn.kids;omega) (by rw[aAG,aAG];omega)).mono ?_;rintro jq se ⟨me,_⟩;rw[fV]at me;unfold ma;rw[fV]
   simpa using me
theorem bg.ok.b {n:bg}(h:n.ok)(hl:n.cells.length<=1000):BA n:=⟨h.cell,h.A8,hl,by have:=h.jf;rw[this];split<;>omega⟩
theorem BQ {v:CV}{n:bg}(hf:cY st)(h:IsNode st [] v n)(hn:n.ok)(hl:n.cells.length<=1000):R 105 [v] st fun x st'=>x=I n.size/\Kp [] st st':=by
 have h':=h;obtain⟨vc,vk,rfl,h1,h2⟩:=h;refine bN ?_;rw[ahJ];rw[cn,aX];refine⟨rfl, ?_⟩;have k1:Kp [] st (St.new st (.cells [.bool n.leaf,vc,vk] 105 false)):=(Kp.refl [] st).new _;have g1:(St.new st (.cells [.bool n.leaf,vc,vk] 105 false)).mem.get st.next=some (.cells [.bool n.leaf,vc,vk] 105 false):=au _ _;have n1:(St.new st (.cells [.bool n.leaf,vc,vk] 105 false)).next=st.next+1:=rfl;generalize St.new st (.cells [.bool n.leaf,vc,vk] 105 false)=s1 at*;rw[aQ (n:=3) g1 rfl,af];refine(zs (h'.mono k1) hn (by omega)).mono ?_;rintro _ s2 ⟨rfl,k2⟩;have kH:Kp [] st s2:=k1.trans k2 (by simp);have g2:=(k2.keep st.next (by omega) (by simp)).trans g1;simp only[dm,af,aAU,ag,aAz,aAO];rw[aQ (n:=3) g2 rfl,af];refine(vC (kH.fresh hf) (h'.mono kH) (hn.b hl)).mono ?_;intro x s3 m3;have:=m3.kp;rw[(m3.sl [] (by simp)).len (ma n).length (by simp) (by omega) s3,af];exact⟨rfl,kH.trans m3.kp (by simp)⟩
theorem KS {v:CV}{n:bg}(hf:cY st)(h:IsNode st [] v n)(hn:n.ok)(hs:n.size<=512):R 142 [v] st fun y st'=>∃x,y= .tuple [x,I 0]/\Made 1 5 (ai (ma n)) st x st':=by
 have h':=h;obtain⟨vc,vk,rfl,h1,h2⟩:=h
 have hl:n.cells.length<=512:=by
  have:=eR n.leaf n.cells;rw[bX]at hs;omega
 refine bN ?_;rw[ahe];rw[cn,aX];refine⟨rfl, ?_⟩;have k1:Kp [] st (St.new st (.cells [.bool n.leaf,vc,vk] 105 false)):=(Kp.refl [] st).new _;have g1:(St.new st (.cells [.bool n.leaf,vc,vk] 105 false)).mem.get st.next=some (.cells [.bool n.leaf,vc,vk] 105 false):=au _ _;have n1:(St.new st (.cells [.bool n.leaf,vc,vk] 105 false)).next=st.next+1:=rfl;generalize St.new st (.cells [.bool n.leaf,vc,vk] 105 false)=s1 at*;rw[aQ (n:=3) g1 rfl,af];refine(zs (h'.mono k1) hn (by omega)).mono ?_;rintro _ s2 ⟨rfl,k2⟩;have kH:Kp [] st s2:=k1.trans k2 (by simp);have g2:=(k2.keep st.next (by omega) (by simp)).trans g1;simp only[dm,af,aAU,ag,aAz,aAO];rw[aQ (n:=3) g2 rfl,af];refine(vC (kH.fresh hf) (h'.mono kH) (hn.b (by omega))).mono ?_;intro x s3 m3
 have e1:aj .gtr none true (I (ma n).length) (.int .i64 512) s3= .ok (.bool false) s3:=by
  rw[aw,dq,aAB (by unfold bg.size at hs;omega)]
 rw[(m3.sl [] (by simp)).len (ma n).length (by simp) (by omega) s3];simp only[af,e1,ag,aAz,aAO];exact⟨x,rfl,m3.after kH⟩
end
section
variable {st st':St}
theorem C0 {k:Nat}{z:List CV}{x:CV}(hz:z.length=k)(hx:x.cD.length=k)(ha:x.isAny=false):fX [(0,k,x)] (cH 1 z)=some x.cD:=by
 have:cH 1 z=z:=by simp[cH]
 rw[cF,aAI ⟨⟨hx,ha⟩,by rw[this];omega⟩,this,kv];rw[dY _ _ (by omega)]
theorem Dk {s:St}{b:Nat}{v x:CV}{k e:Nat}(bytes:Nat){L z:List CV}{F:List Nat}{K:CV->St->CV->St->Prop}(h:Own s v k e L F)(hk:0<k)(hF:∀q∈F,q<s.next/\q≠b)(hb:b<s.next)(hn:s.mem.get b=none)(hz:z.length=k)(hx:x.cD.length=k)(ha:x.isAny=false)(jh:aV x.cD=true)
 (hsz:(L.length+k)*(bytes+1)<=140737488355328) (hK:∀v' s2 F',Own s2 v' k e (L++x.cD) F'->Kp (b::F) s s2->(∀q∈F',(q∈F\/s.next<=q)/\q<s2.next)->K (.slice b 0 1 1 0) (St.set s b (.cells x.cD e false)) v' s2):
 upon (fR b e 1 (cH 1 z) [(0,k,x)] s) fun x8 bU=>upon (bM e k bytes v (cV .slice k z x8 bU) bU) fun x9 ep=>K x8 bU x9 ep:=by
 rw[jb hn (C0 hz hx ha),aS];have px:Kp (b::F) s (St.set s b (.cells x.cD e false)):=(Kp.refl _ s).set _ (.inl (by simp)) hb;have h1:Own (St.set s b (.cells x.cD e false)) v k e L F:=h.mono fun q hq=>al _ _ _ _ (hF q hq).2;rw[Em (k:=k) (n:=1) (ao _ _ _) (by omega) (by omega)];obtain⟨v',st',F',e1,e2,e3,e4⟩:=h1.append (n:=1) (bytes:=bytes) (T:=x.cD) hk (by omega) jh (fun q hq=>(hF q hq).1) (by rw[hx];exact hsz);rw[e1,aS];refine hK v' st' F' e2 (px.trans e3 fun q hq=> .inl (by simp[hq])) fun q hq=>⟨(e4 q hq).1.imp id fun h=> ?_,(e4 q hq).2⟩;have:(St.set s b (.cells x.cD e false)).next=s.next:=rfl;omega
def Ut (r:Nat)(F:List Nat)(L:List UInt8)(st st':St):Prop:=Kp F st st'/\nK st' r F L
theorem Sq {r:Nat}{F:List Nat}{L:List UInt8}{leaf:Bool}{c:dh}(h:nK st r F (hU leaf c++L))(hc:c.ok leaf)(hF:∀b∈F,b<st.next):R 177 [.ptr r 0, .bool leaf] st fun x st'=>x= .agg (aU c)/\Ut r F L st st':=by
 refine bN ?_;rw[agE];have k1:Kp F st (St.new st (.cells [.str [], .str [], .int .i64 0, .int .i64 0] 109 false)):=(Kp.refl F st).new _;have g1:(St.new st (.cells [.str [], .str [], .int .i64 0, .int .i64 0] 109 false)).mem.get st.next=some (.cells [.str [], .str [], .int .i64 0, .int .i64 0] 109 false):=au _ _;have n1:(St.new st (.cells [.str [], .str [], .int .i64 0, .int .i64 0] 109 false)).next=st.next+1:=rfl;have r1:=h.keep ((Kp.refl [] st).new (.cells [.str [], .str [], .int .i64 0, .int .i64 0] 109 false)) (by simp);rw[cG,aS];generalize St.new st (.cells [.str [], .str [], .int .i64 0, .int .i64 0] 109 false)=s1 at*;have gL:∀b∈F,b≠st.next:=fun b hb=>by have:=hF b hb;omega
 have hnF:st.next∉F:=fun h=>gL _ h rfl;have e1:hU leaf c++L=uv c.key.length++(c.key++((if leaf=true then (if c.dL=0 then uv 0++(uv c.value.length++c.value)else uv c.dL++uv c.size)else [])++L)):=by unfold hU;simp
 rw[e1]at r1;refine(BX (m:=48) r1 hc.key (by omega)).mono ?_;rintro _ s2 ⟨rfl,k2,n2,r2⟩;have mC:bD [.str [], .str [], .int .i64 0, .int .i64 0] [(0,1, .str c.key)] s2= .ok (.agg [.str c.key, .str [], .int .i64 0, .int .i64 0]) s2:=rfl;rw[mC,af];have g2:=(k2.keep st.next (by omega) hnF).trans g1;refine tn rfl rfl rfl ?_;have k3:Kp F s2 (St.new s2 (.cells [.str c.key, .str [], .int .i64 0, .int .i64 0] 109 false)):=(Kp.refl F s2).new _;have g3:(St.new s2 (.cells [.str c.key, .str [], .int .i64 0, .int .i64 0] 109 false)).mem.get s2.next=some (.cells [.str c.key, .str [], .int .i64 0, .int .i64 0] 109 false):=au _ _;have n3:(St.new s2 (.cells [.str c.key, .str [], .int .i64 0, .int .i64 0] 109 false)).next=s2.next+1:=rfl;have r3:=r2.keep ((Kp.refl [] s2).new (.cells [.str c.key, .str [], .int .i64 0, .int .i64 0] 109 false)) (by simp);have Ot:(St.new s2 (.cells [.str c.key, .str [], .int .i64 0, .int .i64 0] 109 false)).mem.get st.next=_:=(aZ _ _ _ (by omega)).trans g2;generalize St.new s2 (.cells [.str c.key, .str [], .int .i64 0, .int .i64 0] 109 false)=s3 at*;have ku:Kp F st s3:=(k1.trans k2 fun q hq=> .inl hq).trans k3 fun q hq=> .inl hq;have Ry:s2.next∉F:=fun h=>by have:=hF _ h;omega
 have fin:∀(s:St),Kp F st s->st.next<s.next->s2.next<s.next->s.mem.get st.next=some (.cells [.str [], .str [], .int .i64 0, .int .i64 0] 109 false)->s.mem.get s2.next=some (.cells (aU c) 109 false)->nK s r F L->
  us (aI 4 (.ptr s2.next 0) s) fun x6=>upon (aP 4 (.ptr st.next 0) x6 s) fun _ s5=>us (aI 4 (.ptr st.next 0) s5) fun x7=>x7= .agg (aU c)/\Ut r F L st s5:=by
  intro s hk h1 h2 q1 q2 q3;rw[aQ (n:=4) q2 rfl,af,aF,q1,aR,aX];have:bp [.str [], .str [], .int .i64 0, .int .i64 0] 0 (aU c)=aU c:=dY _ _ rfl;rw[this];refine⟨⟨rfl,rfl,by decide⟩, ?_⟩;rw[aQ (n:=4) (ao _ _ _) rfl,af];exact⟨rfl,hk.set _ (.inr (aAE _)) h1,q3.keep (X:=[st.next]) ((Kp.refl _ s).set _ (.inl (by simp)) h1) (by simpa using gL)⟩
 rw[dm,af,ag];cases leaf with
 |false=>
  obtain⟨h1,h2,h3⟩:=hc.inner rfl;rw[aAT,aAI rfl];simp only[aAz,aAO,aBf]at r3;refine fin s3 ku (by omega) (by omega) Ot ?_ r3;rw[g3];simp[aU,h1,h2,h3]
 |true=>
  rw[aAU,aAH (by decide),cN];simp only[aAY]at r3
  by_cases h0:c.dL=0
  ·obtain⟨h1,h2⟩:=hc.short rfl h0;rw[aAI h0]at r3;have e2:(uv 0++(uv c.value.length++c.value))++L=uv 0++(uv c.value.length++(c.value++L)):=by simp
   rw[e2]at r3;refine(kh (n:=0) (m:=2147483647) r3 (by omega) (by omega)).mono ?_;rintro _ s8 ⟨rfl,k8,n8,r8⟩;have g8:=(k8.keep s2.next (by omega) Ry).trans g3;have g8':=(k8.keep st.next (by omega) hnF).trans Ot;have jZ:bp [.str c.key, .str [], .int .i64 0, .int .i64 0] 2 [I ((0:Nat):Int)]=[.str c.key, .str [], .int .i64 0, .int .i64 0]:=rfl;simp only[fst,fl,ah,af,aF,g8,aR,aAF,iC,jZ,aA,ao,aq,aAA,aAy,av];refine⟨⟨rfl,rfl,by simp⟩, ?_⟩;have k9:Kp F st (St.set s8 s2.next (.cells [.str c.key, .str [], .int .i64 0, .int .i64 0] 109 false)):=(ku.trans k8 fun q hq=> .inl hq).set _ (.inr (by omega)) (by omega);have g9:(St.set s8 s2.next (.cells [.str c.key, .str [], .int .i64 0, .int .i64 0] 109 false)).mem.get s2.next=some (.cells [.str c.key, .str [], .int .i64 0, .int .i64 0] 109 false):=ao _ _ _;have g9':(St.set s8 s2.next (.cells [.str c.key, .str [], .int .i64 0, .int .i64 0] 109 false)).mem.get st.next=_:=(al _ _ _ _ (by omega)).trans g8';have n9:(St.set s8 s2.next (.cells [.str c.key, .str [], .int .i64 0, .int .i64 0] 109 false)).next=s8.next:=rfl;have r9:=r8.keep (X:=[s2.next]) ((Kp.refl [s2.next] s8).set (p:=s2.next) (.cells [.str c.key, .str [], .int .i64 0, .int .i64 0] 109 false) (.inl (by simp)) (by omega)) (fun b hb=>by have:=hF b hb;simp;omega);generalize St.set s8 s2.next (.cells [.str c.key, .str [], .int .i64 0, .int .i64 0] 109 false)=s9 at*;have e3:aj .eql (some .int) true (.int .i64 0) (.int .i64 0) s9= .ok (.bool true) s9:=rfl;simp only[e3,af,ag,aAY];refine(BX (m:=64) r9 h2 (by omega)).mono ?_;rintro _ sa ⟨rfl,ka,na,ra⟩;have ga:=(ka.keep s2.next (by omega) Ry).trans g9;have ga':=(ka.keep st.next (by omega) hnF).trans g9';have kG:bp [.str c.key, .str [], .int .i64 0, .int .i64 0] 1 [.str c.value]=[.str c.key, .str c.value, .int .i64 0, .int .i64 0]:=rfl;simp only[ah,af,aF,ga,aR,aAF,xY,kG,aJ,aK];refine⟨⟨rfl,rfl,by simp⟩, ?_⟩
   have HN:=fin _ ((k9.trans ka fun q hq=> .inl hq).set (p:=s2.next) _ (.inr (by omega)) (by omega)) (by simp;omega) (by simp;omega) ((al _ _ _ (.cells [.str c.key, .str c.value, .int .i64 0, .int .i64 0] 109 false) (by omega)).trans ga') (by rw[ao];simp[aU,h0,h1]) (ra.keep (X:=[s2.next]) ((Kp.refl _ sa).set (p:=s2.next) _ (.inl (by simp)) (by omega)) (fun b hb=>by have:=hF b hb;simp;omega))
   simpa only[aF,aAF]using HN
  ·obtain⟨h1,h2,h3,h4⟩:=hc.far rfl h0;rw[aAH h0,aBn]at r3;refine(kh (n:=c.dL) (m:=2147483647) r3 h2 (by omega)).mono ?_;rintro _ s8 ⟨rfl,k8,n8,r8⟩;have g8:=(k8.keep s2.next (by omega) Ry).trans g3;have g8':=(k8.keep st.next (by omega) hnF).trans Ot;have jZ:bp [.str c.key, .str [], .int .i64 0, .int .i64 0] 2 [I c.dL]=[.str c.key, .str [],I c.dL, .int .i64 0]:=rfl;simp only[fst,fl,ah,af,aF,g8,aR,aAF,iC,jZ,aA,ao,aq,aAA,aAy,av];refine⟨⟨rfl,rfl,by simp⟩, ?_⟩;have k9:Kp F st (St.set s8 s2.next (.cells [.str c.key, .str [],I c.dL, .int .i64 0] 109 false)):=(ku.trans k8 fun q hq=> .inl hq).set _ (.inr (by omega)) (by omega);have g9:(St.set s8 s2.next (.cells [.str c.key, .str [],I c.dL, .int .i64 0] 109 false)).mem.get s2.next=some (.cells [.str c.key, .str [],I c.dL, .int .i64 0] 109 false):=ao _ _ _;have g9':(St.set s8 s2.next (.cells [.str c.key, .str [],I c.dL, .int .i64 0] 109 false)).mem.get st.next=_:=(al _ _ _ _ (by omega)).trans g8';have n9:(St.set s8 s2.next (.cells [.str c.key, .str [],I c.dL, .int .i64 0] 109 false)).next=s8.next:=rfl;have r9:=r8.keep (X:=[s2.next]) ((Kp.refl [s2.next] s8).set (p:=s2.next) (.cells [.str c.key, .str [],I c.dL, .int .i64 0] 109 false) (.inl (by simp)) (by omega)) (fun b hb=>by have:=hF b hb;simp;omega);generalize St.set s8 s2.next (.cells [.str c.key, .str [],I c.dL, .int .i64 0] 109 false)=s9 at*;have e3:aj .eql (some .int) true (I c.dL) (.int .i64 0) s9= .ok (.bool false) s9:=by rw[aw,cz,aAB (by omega)]
   simp only[e3,af,ag,aAz,aAO];refine(kh (n:=c.size) (m:=2147483647) r9 h4 (by omega)).mono ?_;rintro _ sa ⟨rfl,ka,na,ra⟩;have ga:=(ka.keep s2.next (by omega) Ry).trans g9;have ga':=(ka.keep st.next (by omega) hnF).trans g9';have kG:bp [.str c.key, .str [],I c.dL, .int .i64 0] 3 [I c.size]=[.str c.key, .str [],I c.dL,I c.size]:=rfl;simp only[ah,af,aF,ga,aR,aAF,iC,kG,aJ,aK];refine⟨⟨rfl,rfl,by simp⟩, ?_⟩;have HN:=fin _ ((k9.trans ka fun q hq=> .inl hq).set (p:=s2.next) _ (.inr (by omega)) (by omega)) (by simp;omega) (by simp;omega) ((al _ _ _ (.cells [.str c.key, .str [],I c.dL,I c.size] 109 false) (by omega)).trans ga') (by rw[ao];simp[aU,h1]) (ra.keep (X:=[s2.next]) ((Kp.refl _ sa).set (p:=s2.next) _ (.inl (by simp)) (by omega)) (fun b hb=>by have:=hF b hb;simp;omega))
   simpa only[aF,aAF]using HN
def bg.hasB (n:bg)(key:cc):Bool:=match n.cells[n.find key]? with|some c=>decide (c.key=key)|none=>false
theorem Oz {v:CV}{n:bg}{key:cc}(h:IsNode st [] v n)(hl:n.cells.length<=100000):R 91 [v, .str key] st fun x st'=>x= .tuple [I (n.find key), .bool (n.hasB key)]/\Kp [] st st':=by
 obtain⟨vc,vk,rfl,h1,h2⟩:=h;refine bN ?_;rw[w91];rw[cn,aX];refine⟨rfl, ?_⟩;have k1:Kp [] st (St.new st (.cells [.bool n.leaf,vc,vk] 105 false)):=(Kp.refl [] st).new _;have g1:(St.new st (.cells [.bool n.leaf,vc,vk] 105 false)).mem.get st.next=some (.cells [.bool n.leaf,vc,vk] 105 false):=au _ _;have n1:(St.new st (.cells [.bool n.leaf,vc,vk] 105 false)).next=st.next+1:=rfl;generalize St.new st (.cells [.bool n.leaf,vc,vk] 105 false)=s1 at*;rw[cn,xY];refine⟨rfl, ?_⟩;have k2:Kp [] s1 (St.new s1 (.cells [.str key] 9 false)):=(Kp.refl [] s1).new _;have g2:(St.new s1 (.cells [.str key] 9 false)).mem.get s1.next=some (.cells [.str key] 9 false):=au _ _;have n2:(St.new s1 (.cells [.str key] 9 false)).next=s1.next+1:=rfl;generalize St.new s1 (.cells [.str key] 9 false)=s2 at*;have sy:=(k2.keep st.next (by omega) (by simp)).trans g1;have kH:Kp [] st s2:=k1.trans k2 (by simp);simp only[fl,ah,af,aA,sy,aq,aAF,aAA,aAy,av,l6]
 have ajj:R 139 [vc, .func (.func 140) [] [.ptr s1.next 0]] s2 fun x s=>x=(if n.find key<n.cells.length then I (n.find key)else .int .i64 (-1))/\Kp [] s2 s:=by
  refine bN ?_;rw[ahh];have hlen:=(h1.mono kH).len n.cells.length (bL _) (by omega) s2;simp only[cN,aJ,aK,hlen,af];refine bK (fun fu vs s=>∃i,fu+i=n.cells.length/\i<=n.find key/\vs=[vc, .func (.func 140) [] [.ptr s1.next 0],I n.cells.length,I i]/\Kp [] s2 s) ?_ (n:=n.cells.length) ⟨0,rfl,aDp _,rfl,Kp.refl _ _⟩;rintro fu vs s k ⟨i,hi,hif,rfl,lI⟩ next;simp only[aJ,aK,dv,af,ag]
  by_cases hc:i<n.cells.length
  ·rw[aAJ hc,aAI rfl];have WS:Kp [] st s:=kH.trans lI (by simp);refine(h1.mono WS).iT (L:=n.cells.map aU) (by omega) (fJ _) (by simpa using hc) _ ?_;have e:(n.cells.map aU)[i]'(by simpa using hc)=aU n.cells[i]:=by simp
   rw[e,dP];refine bN ?_;simp only[aBf,aBC];rw[ahg];rw[cn,aX];refine⟨rfl, ?_⟩;have g4:(St.new s (.cells (aU n.cells[i]) 109 false)).mem.get s.next=some (.cells [.str n.cells[i].key, .str n.cells[i].value,I n.cells[i].dL,I n.cells[i].size] 109 false):=au _ _;have k4:Kp [] s (St.new s (.cells (aU n.cells[i]) 109 false)):=(Kp.refl _ s).new _;have gk:=(k4.keep s1.next (by have:=lI.next;omega) (by simp)).trans ((lI.keep s1.next (by omega) (by simp)).trans g2);generalize St.new s (.cells (aU n.cells[i]) 109 false)=s4 at*;simp only[fl,ah,af,aA,g4,gk,aq,aAF,aAy,av,dX,qW,ag]
   by_cases hp:jY key n.cells[i].key
   ·rw[aAJ hp,aAI rfl]
    have NP:n.find key<=i:=by
     rcases aBT i (n.find key)with h|h
     ·have:=List.not_of_lt_findIdx h;simp[hp]at this
     ·exact h
    have:n.find key=i:=by omega
    rw[this,aAI hc];exact⟨rfl,lI.trans k4 (by simp)⟩
   ·rw[aAB hp,aAH (by decide),gF i (by omega),af];refine next (fu-1) _ _ (by omega) ⟨i+1,by omega, ?_,rfl,lI.trans k4 (by simp)⟩;rcases aCR hif with h|h
    ·exfalso;have:=List.findIdx_getElem (p:=fun c:dh=>decide (jY key c.key)) (xs:=n.cells) (w:=by rw[show List.findIdx (fun c:dh=>decide (jY key c.key)) n.cells=n.find key from rfl,<-h];exact hc);simp only[aBR]at this;refine hp ?_;have e3:n.cells[i]=n.cells[List.findIdx (fun c:dh=>decide (jY key c.key)) n.cells]'(by rw[show List.findIdx (fun c:dh=>decide (jY key c.key)) n.cells=n.find key from rfl,<-h];exact hc):=by congr 1
     rw[e3];exact this
    ·exact h
  ·rw[aAB hc,aAH (by decide),aAH (by omega)];exact⟨rfl,lI⟩
 refine ajj.mono ?_;rintro _ s3 ⟨rfl,k3⟩;have ku:Kp [] st s3:=kH.trans k3 (by simp);have qa:=(k3.keep st.next (by omega) (by simp)).trans sy;have HV:=(k3.keep s1.next (by omega) (by simp)).trans g2;have hle:n.find key<=n.cells.length:=aCM
 by_cases hf:n.find key<n.cells.length
 ·rw[aAI hf];have e1:aj .lss none true (I (n.find key)) (.int .i64 0) s3= .ok (.bool false) s3:=by rw[aw,cP,aAB (by omega)]
  obtain⟨b,p,l,t,g,q1,q2,q3,q4,q5⟩:=(h1.mono ku).cellAt (L:=n.cells.map aU) (by omega) (fJ _) (i:=n.find key) (by simpa using hf);have q6:=q5 0 (.str n.cells[n.find key].key) (by simp[aU]);rw[aBl]at q6
  have e4:n.hasB key=decide (n.cells[n.find key].key=key):=by
   unfold bg.hasB;rw[aAC hf]
  simp only[e1,af,ag,aAz,aAO,bt,ah,aA,qa,aq,aAF,aBl,aAA,aAy,av,q1,q2,q6,HV,dX,qX,e4,aCC,and_true];exact ku
 ·rw[aAH hf];have e1:aj .lss none true (.int .i64 (-1)) (.int .i64 0) s3= .ok (.bool true) s3:=rfl;have hlen:=(h1.mono ku).len n.cells.length (bL _) (by omega) s3;have e2:n.find key=n.cells.length:=by omega
  have e4:n.hasB key=false:=by
   unfold bg.hasB;rw[aBs (by omega)]
  simp only[e1,af,ag,aAY,ah,aA,qa,aq,aAF,aAA,aAy,av,hlen,e4,e2];exact⟨trivial,ku⟩
end
