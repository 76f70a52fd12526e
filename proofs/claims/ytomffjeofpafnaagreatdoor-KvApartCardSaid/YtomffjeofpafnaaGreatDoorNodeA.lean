import Derived.Test.YtomffjeofpafnaaGreatDoorTree
import Derived.Test.YtomffjeofpafnaaGreatDoorPagB
namespace Lim
open Go
noncomputable section
set_option linter.defProp false
set_option maxRecDepth 100000
section
variable {n:Nat}{X:List Nat}{v:CV}{k:Nat}{L:List (List CV)}{i:Nat}
def DM (st:St)(x y:qB):St.set (St.new st x) st.nx y=St.new st y:=by
 simp only[St.set,St.new,St.mk.injEq,and_true];exact PT.ext λp=>by simp only[PT.eZ];split<;>rfl
def mH {t:Nat}{z T:List CV}{s:St}{K:CV->St->Prop}(hz:z.length=n)(hl:T.length=n)(ho:bj T=true)(hK:K (.ptr s.nx 0) (St.new s (.cells T t false))):upon (du t z s) λx s2=>upon (aR n x (.agg T) s2) λ_ s3=>K x s3:=by
 rw[cH,aS,aJ,ao];have:bD z 0 T=T:=ep _ _ qE;rw[aW,aT,this,DM];exact⟨⟨hl,ho,qE⟩,hK⟩
def aU (c:dh):List CV:=[.str c.key,.str c.value,I c.dU,I c.size]
def bC (l:List dh):List CV:=(l.map aU).flatten
def cJ (l:List Nat):List CV:=l.map λn:Nat=>I n
def fp (l:List dh):∀x∈l.map aU,x.length=4:=by
 intro x hx;obtain⟨c,_,rfl⟩:=aFq.1 hx;rfl
def bB (l:List dh):(bC l).length=l.length*4:=by unfold bC;rw[fJ (fp l)];simp
@[simp] def qd (l:List Nat):(cJ l).length=l.length:=by simp[cJ]
def gE (a b:List dh):bC (a++b)=bC a++bC b:=by simp[bC]
def ny (a b:List Nat):cJ (a++b)=cJ a++cJ b:=by simp[cJ]
def jQ (l:List dh)(i:Nat)(h:i<=l.length):(bC l).take (i*4)=bC (l.take i):=by
 unfold bC;rw[qm (fp l) i OY,aGx]
def jR (l:List dh)(i:Nat)(h:i<=l.length):(bC l).drop (i*4)=bC (l.drop i):=by
 unfold bC;rw[qp (fp l) i OY,aGl]
def vx (l:List Nat)(i:Nat):(cJ l).take i=cJ (l.take i):=by unfold cJ;rw[aGx]
def vy (l:List Nat)(i:Nat):(cJ l).drop i=cJ (l.drop i):=by unfold cJ;rw[aGl]
@[simp] def fx (c:dh):bj (aU c)=true:=rfl
@[simp] def dS (l:List dh):bj (bC l)=true:=by
  induction l with
  |nil=>rfl
  |cons c l ih=>
   have:bC (c::l)=aU c++bC l:=by simp[bC]
   rw[this,rH,ih];rfl
@[simp] def jI (l:List Nat):bj (cJ l)=true:=by
  induction l with
  |nil=>rfl
  |cons c l ih=>show(cE (I c)&&bj (cJ l))=true;rw[ih];rfl
section
variable {st st':St}
def Sl.hO (hs:Sl st X v k L.flatten)(hk:0<k)(hw:∀x∈L,x.length=k)(hi:i<L.length)(Q:CV->Prop)(hq:Q (.agg L[i])):Lim.hO k k v (I i) st Q:=by
 have hlen:=fJ hw;rcases hs with⟨rfl,h⟩|⟨b,off,len,cap,grow,rfl,h2,h3,h4⟩
 .rw[h]at hlen;have:0<L.length*k:=Nat.mul_pos qE hk;simp at hlen;omega
 .have:len=L.length:=aFU hk (by rw[<-h2,hlen]);subst this;rcases h4 with h4|⟨_,_,l,t,g,h7,h8,h9⟩
  .omega
  .unfold Lim.hO;rw[fO hi (.inr h3.1)]
   have Hh:i*k+k<=L.length*k:=by
    calc i*k+k=(i+1)*k:=by rw[aFW,aGT]
     _<=L.length*k:=aFH k hi
   simp only[af,so,h7,aq,wx];refine⟨qE,?_⟩
   have e:(l.drop (off+i*k)).take k=L[i]:=by
    rw[<-sZ hw i hi,<-h9,aGD,aHn,aGf,aFG qE]
   rw[e];exact hq
def Sl.cellAt (hs:Sl st X v k L.flatten)(hk:0<k)(hw:∀x∈L,x.length=k)(hi:i<L.length):∃b p l t g,(∀s,cc k v (I i) s=.ok (.ptr b p) s)/\st.m.g b=some (.cells l t g)/\b<st.nx/\b∉X/\∀o x,L[i][o]?=some x->l[p+o]?=some x:=by
 have hlen:=fJ hw;rcases hs with⟨rfl,h⟩|⟨b,off,len,cap,grow,rfl,h2,h3,h4⟩
 .rw[h]at hlen;have:0<L.length*k:=Nat.mul_pos qE hk;simp at hlen;omega
 .have:len=L.length:=aFU hk (by rw[<-h2,hlen]);subst this;rcases h4 with h4|⟨h5,h6,l,t,g,h7,h8,h9⟩
  .omega
  .refine⟨b,off+i*k,l,t,g,fO hi (.inr h3.1),h7,h6,h5,λo x hx=>?_⟩
   have Hh:i*k+k<=L.length*k:=by
    calc i*k+k=(i+1)*k:=by rw[aFW,aGT]
     _<=L.length*k:=aFH k hi
   have ho:o<k:=by
    obtain⟨h,_⟩:=aFb.1 hx;rw[hw _ (aFj hi)]at h;exact h
   rw[<-hx,<-R9 hw i hi o ho,<-h9,aGE,aEW qE,aHp]
   congr 1;omega
def IsNode (st:St)(X:List Nat)(v:CV)(n:bp):Prop:=∃vc vk,v=.agg [.bool n.leaf,vc,vk]/\Sl st X vc 4 (bC n.cells)/\Sl st X vk 1 (cJ n.kids)
def IsNode.mono {n:bp}(h:IsNode st X v n)(hk:Kp X st st'):IsNode st' X v n:=by
 obtain⟨vc,vk,h1,h2,h3⟩:=h;exact⟨vc,vk,h1,h2.mono hk,h3.mono hk⟩
def IsNode.dW {Y:List Nat}{n:bp}(h:IsNode st X v n)(hy:∀q∈Y,q∈X\/st.nx<=q):IsNode st Y v n:=by
 obtain⟨vc,vk,h1,h2,h3⟩:=h;exact⟨vc,vk,h1,h2.dW hy,h3.dW hy⟩
def A2 {least:Nat}:R 186 [I n,I least] st λv st'=>v=.bool (decide (least<=n/\n<=qZ))/\st'=st:=by
 refine bP ?_;rw[ajY]
 by_cases h1:least<=n
 .have e1:(least:Int)<=n:=by omega
  have e2:((n:Int)<=2147483647)↔n<=qZ:=by show _↔n<=2147483647;omega
  simp[h1,e1,e2]
 .have e1:¬(least:Int)<=n:=by omega
  simp[h1,e1]
def YX {c:dh}{leaf:Bool}(h:c.ok leaf):R 183 [.agg (aU c),.bool leaf] st λv st'=>v=.bool true/\Kp [] st st':=by
 refine bP ?_;rw[akb];rw[bV,aT];refine⟨rfl,?_⟩;have k1:Kp [] st (St.new st (.cells (aU c) 109 false)):=(Kp.refl [] st).new _;have g1:(St.new st (.cells (aU c) 109 false)).m.g st.nx=some (.cells [.str c.key,.str c.value,I c.dU,I c.size] 109 false):=ao _ _;generalize St.new st (.cells (aU c) 109 false)=s1 at*;have e0:¬(48:Int)<c.key.length:=by have:=h.key;omega
 simp only[fl,ah,af,aB,g1,aq,aER,aEL,ay,fg,az,dx,e0,aGv,ag,aEM,aFa,cU];cases leaf with
 |false=>
  obtain⟨h1,h2,h3⟩:=h.inner rfl;rw[aFf,aEW rfl,aK (n:=4) g1 rfl,af];simp[dV,cR,bD,qR,lO,yX,iB,andThen,gV,h1,h2,h3,k1]
 |true=>
  rw[aFh,aET u7]
  by_cases h0:c.dU=0
  .obtain⟨h1,h2⟩:=h.short rfl h0;have e1:(c.value.length:Int)<=64:=by omega
   simp[h0,h1,g1,gQ,e1,k1]
  .obtain⟨h1,h2,h3,h4⟩:=h.far rfl h0;have e1:¬(c.dU:Int)=0:=by omega
   simp[h1,g1,gQ,h0];refine(A2 (n:=c.dU) (least:=1)).same ?_;have e2:1<=c.dU:=qE
   have e3:decide (1<=c.dU/\c.dU<=qZ)=true:=aEV ⟨e2,h2⟩;have e4:decide (1<=c.size/\c.size<=qZ)=true:=aEV ⟨h3,h4⟩;simp only[e3,g1,af,aF,aFm,aG,bh,eR,aB,aq,aEN,aEL,ay];refine(A2 (n:=c.size) (least:=1)).same ?_;simp only[e4];exact⟨aer,k1⟩
end
end
section
variable {st st':St}
def gH (i:Nat)(h:i<=4000000000000000000)(s:St)(d:Option kj):ai .add d true (I i) (.int .i64 1) s=.ok (I ((i+1:Nat):Int)) s:=xt
def vd (i:Nat)(h:i<=4000000000000000000)(h0:0<i)(s:St)(d:Option kj):ai .sub d true (I i) (.int .i64 1) s=.ok (I ((i-1:Nat):Int)) s:=Bw
def dC (i n:Nat)(s:St)(d:Option kj)(c:Bool):ai .lss d c (I i) (I n) s=.ok (.bool (decide (i<n))) s:=TO
def UX {X:List Nat}{v:CV}{l:List Nat}(hs:Sl st X v 1 (cJ l))(hl:l.length<=1000000)(hk:∀k∈l,k<=qZ):R 184 [v,.func (.func 185) [] []] st λx st'=>x=.bool false/\Kp [] st st':=by
 refine bP ?_;rw[aka]
 have key:R 202 [v,.func (.func 185) [] []] st λx st'=>x=.int .i64 (-1)/\Kp [] st st':=by
  refine bP ?_;rw[ajQ];have hlen:=hs.len l.length uG qE st;simp only[cV,aL,aM,hlen,af];refine bN (λfu vs s=>∃i,fu+i=l.length/\vs=[v,.func (.func 185) [] [],I l.length,I i]/\Kp [] st s) ?_ (n:=l.length) ⟨0,rfl,rfl,Kp.refl _ _⟩;rintro fu vs s k ⟨i,hi,rfl,pP⟩ next;simp only[aL,aM,dC,af,ag]
  by_cases hc:i<l.length
  .rw[aEV hc,aEW rfl];have JN:=(hs.dW (Y:=[]) uG).mono pP;refine JN.idx (i:=i) Dx _ ?_;have e:(cJ l)[i]'(by simpa using hc)=I l[i]:=by simp[cJ]
   rw[e,dM];simp only[aFt,aFN];refine bP ?_;rw[ajZ];refine(A2 (n:=l[i]) (least:=0)).same ?_;have e2:decide (0<=l[i]/\l[i]<=qZ)=true:=aEV ⟨qE,hk _ (aFj hc)⟩;simp only[e2,cU,af,aFh,ag,aEM,aFa,gH i qE];exact next (fu-1) _ _ qE ⟨i+1,qE,rfl,pP⟩
  .rw[aEO hc,aET u7];exact⟨aer,pP⟩
 refine key.mono ?_;rintro _ s ⟨rfl,h⟩;simp[h]
def A6 {v:CV}{n:bp}(h:IsNode st [] v n)(hn:n.ok)(hl:n.cells.length<=100000):R 145 [v] st λx st'=>x=.bool true/\Kp [] st st':=by
 obtain⟨vc,vk,rfl,h1,h2⟩:=h;refine bP ?_;rw[akE];rw[bV,aT];refine⟨rfl,?_⟩;have k1:Kp [] st (St.new st (.cells [.bool n.leaf,vc,vk] 105 false)):=(Kp.refl [] st).new _;have g1:(St.new st (.cells [.bool n.leaf,vc,vk] 105 false)).m.g st.nx=some (.cells [.bool n.leaf,vc,vk] 105 false):=ao _ _;have n1:(St.new st (.cells [.bool n.leaf,vc,vk] 105 false)).nx=st.nx+1:=rfl;generalize St.new st (.cells [.bool n.leaf,vc,vk] 105 false)=s1 at*;have hlen:=(h1.mono k1).len n.cells.length (bB _) qE s1;simp only[cV,aL,aM,fl,ah,af,aB,g1,aq,aER,aEN,aEL,ay,hlen];refine bN (λfu vs s=>∃i,fu+i=n.cells.length/\vs=[.ptr st.nx 0,vc,I n.cells.length,I i]/\Kp [] s1 s) ?_ (n:=n.cells.length) ⟨0,rfl,rfl,Kp.refl _ _⟩;rintro fu vs s k ⟨i,hi,rfl,hk⟩ next;have g2:=(hk.keep st.nx qE uG).trans g1;have mr:=k1.trans hk uG;simp only[aL,aM,dC,af,ag]
 by_cases hc:i<n.cells.length
 .rw[aEV hc,aEW rfl];refine(h1.mono mr).hO (L:=n.cells.map aU) qE (fp _) Dx _ ?_;have e:(n.cells.map aU)[i]'(by simpa using hc)=aU n.cells[i]:=by simp
  rw[e];refine mH rfl rfl (fx _) ?_;have k3:Kp [] s (St.new s (.cells (aU n.cells[i]) 109 false)):=(Kp.refl _ s).new _;have g3:(St.new s (.cells (aU n.cells[i]) 109 false)).m.g s.nx=some (.cells [.str n.cells[i].key,.str n.cells[i].value,I n.cells[i].dU,I n.cells[i].size] 109 false):=ao _ _;have n3:(St.new s (.cells (aU n.cells[i]) 109 false)).nx=s.nx+1:=rfl;generalize St.new s (.cells (aU n.cells[i]) 109 false)=s3 at*;have g2':=(k3.keep st.nx (by have:=mr.nx;have:=hk.nx;omega) uG).trans g2;rw[bG,aK (n:=4) g3 rfl];simp only[af,ah,aB,g2',aq,aER,aEL,ay];refine(YX (hn.cell _ (aFj hc))).mono ?_;rintro _ s6 ⟨rfl,k6⟩;have EG:=(hk.trans k3 uG).trans k6 uG;have aoP:=k1.trans EG uG;have RZ:=(k6.keep s.nx qE uG).trans g3;have g6:=(EG.keep st.nx qE uG).trans g1;have e1:ai .gtr none true (I i) (.int .i64 0) s6=.ok (.bool (decide (0<i))) s6:=zz
  simp only[cU,af,aFh,aG,aEM,aFa,aFf,bh,e1]
  by_cases h0:0<i
  .rw[aEV h0];obtain⟨b,p,cl,ct,cg,q1,q2,_,_,q3⟩:=((h1.mono aoP)).cellAt (L:=n.cells.map aU) qE (fp _) (i:=i-1) vR;have q4:=q3 0 (.str n.cells[i-1].key) TT;rw[aFC]at q4;simp only[aFm,bh,ah,af,aB,g6,aq,aFC,aEN,aEL,ay,vd i qE h0,q1,q2,q4];have hlt:eQ n.cells[i-1].key n.cells[i].key:=aHg.1 hn.sorted _ _ _ _ qE;have e9:¬lp n.cells[i].key n.cells[i-1].key:=λh=>h hlt;simp only[RZ,aq,aEL,ay,eA,wh,e9,aGv,af,aF,aFm,aEM,aFa,ag,gH i qE];refine⟨⟨aer,aer,aer,aer,aer,aer⟩,aer,?_⟩;exact next (fu-1) _ _ qE ⟨i+1,qE,rfl,EG⟩
  .rw[aEO h0];simp only[aEM,aFa,aFm,bS,af,aF,ag,gH i qE];refine⟨⟨aer,aer,aer,aer,aer,aer⟩,aer,?_⟩;exact next (fu-1) _ _ qE ⟨i+1,qE,rfl,EG⟩
 .rw[aEO hc,aET u7];have afK:=(h1.mono mr).len n.cells.length (bB _) qE s;have Rh:=(h2.mono mr).len n.kids.length uG qE s;have rO:=hn.jw;simp only[ah,af,aB,g2,aq,aER,aEN,aEL,ay,afK,gH n.cells.length qE,ag];have AM:n.kids.length<=1000000:=by rw[rO];split<;>omega
  have fin:∀m:Nat,n.kids.length=m->
   us (bo .slice vk s) (λjz=>us (ai BinOp.eql (some kj.int) false jz (CV.int IntKind.i64 m) s) λiY=>
    gQ (ak true iY) 2 (CV.ptr st.nx 0) s λjb=>fD (ak true iY) s (λk=>R 184 [jb,CV.func (Fn.func 185) [] []] s k) λkH s8=>us (aZ (ak true iY) s8 (kY UnOp.not kH s8)) λkg=>us (aX iY kg (CV.bool false) s8) λlu=>lu=CV.bool true/\Kp [] st s8):=by
   intro m hm;have e5:ai .eql (some .int) false (I n.kids.length) (.int .i64 m) s=.ok (.bool true) s:=by rw[az,cI,aEV qE]
   simp only[Rh,af,e5,aG,aFm,gQ,bh,eR,ah,aB,g2,aq,aER,aEN,aEL,ay];refine(UX (h2.mono mr) AM hn.CK).mono ?_;rintro _ s8 ⟨rfl,k8⟩;simp only[cU,af,aF,aFm,aFf];exact⟨aer,mr.trans k8 uG⟩
  cases fL:n.leaf with
  |true=>rw[aEW rfl];rw[fL,aEW rfl]at rO;exact fin 0 rO
  |false=>rw[aET u7];rw[fL,aET u7]at rO;exact fin _ rO
end
section
variable {k e:Nat}{L:List CV}{s0 s s':St}{x v:CV}{n:bp}
section
variable {st st':St}
def Made.after (h:Kp [] s0 s)(m:Made k e L s x s'):Made k e L s0 x s':=by
 obtain⟨F,h1,h2,h3⟩:=m;exact⟨F,h.trans h1 uG,h2,λb hb=>⟨by have:=(h3 b hb).1;have:=h.nx;omega,(h3 b hb).2⟩⟩
def Made.kp (m:Made k e L s0 x s):Kp [] s0 s:=by obtain⟨F,h1,_⟩:=m;exact h1
def Made.keep (m:Made k e L s0 x s)(h:Kp [] s s'):Made k e L s0 x s':=by
 obtain⟨F,h1,h2,h3⟩:=m;exact⟨F,h1.trans h uG,h2.keep h λb hb=>⟨(h3 b hb).2,uG⟩,λb hb=>⟨(h3 b hb).1,by have:=(h3 b hb).2;have:=h.nx;omega⟩⟩
def tV {l:CV}{b:List UInt8}{ks:List Nat}(hm:Made 1 5 (aj b) s0 v st)(hl:Sl st [] l 1 (cJ ks))(hk:∀k∈ks,k<=qZ)(AM:ks.length<=10000)(hb:b.length<=800000):R 187 [v,l] st λx st'=>Made 1 5 (aj (b++eY ks)) s0 x st'/\Kp [] st st':=by
 refine bP ?_;rw[ajX];have hlen:=hl.len ks.length uG qE st;simp only[cV,aL,aM,hlen,af];refine bN (λfu vs s=>∃i x,fu+i=ks.length/\vs=[x,l,I ks.length,I i]/\Made 1 5 (aj (b++eY (ks.take i))) s0 x s/\Kp [] st s) ?_ (n:=ks.length) ⟨0,v,rfl,rfl,by simpa[eY]using hm,Kp.refl _ _⟩;rintro fu vs s k ⟨i,x,hi,rfl,hx,mr⟩ next;simp only[aL,aM,dC,af,ag]
 by_cases hc:i<ks.length
 .rw[aEV hc,aEW rfl];refine(hl.mono mr).idx (i:=i) Dx _ ?_;have e:(cJ ks)[i]'(by simpa using hc)=I ks[i]:=by simp[cJ]
  rw[e];have hki:=hk _ (aFj hc);have uy:=qf (l:=ks.take i) λk h=>hk k (aFz h);rw[aFc]at uy;have JU:min i ks.length<=10000:=qE
  refine(th (hx.sl [] uG) (n:=ks[i]) aee hki).mono ?_;intro x' s' BN;simp only[gH i qE,af];refine next (fu-1) _ _ qE ⟨i+1,x',qE,rfl,?_,mr.trans BN.kp uG⟩
  have e2:b++eY (ks.take (i+1))=b++eY (ks.take i)++uv ks[i]:=by
   rw[aFe hc,iV];simp[eY]
  rw[e2];exact BN.after hx.kp
 .rw[aEO hc,aET u7];have:ks.take i=ks:=aEX qE;rw[this]at hx;exact⟨hx,mr⟩
structure Dq (n:bp):Prop where
 cell:∀c∈n.cells,c.ok n.leaf
 CK:∀k∈n.kids,k<=qZ
 cells:n.cells.length<=1000
 kids:n.kids.length<=1001
def w9 (hf:eH st)(h:IsNode st [] v n)(hn:Dq n):R 146 [v] st (Made 1 5 (aj (mG n)) st):=by
 obtain⟨vc,vk,rfl,h1,h2⟩:=h;refine bP ?_;rw[akD];rw[bV,aT];refine⟨rfl,?_⟩;have k1:Kp [] st (St.new st (.cells [.bool n.leaf,vc,vk] 105 false)):=(Kp.refl [] st).new _;have g1:(St.new st (.cells [.bool n.leaf,vc,vk] 105 false)).m.g st.nx=some (.cells [.bool n.leaf,vc,vk] 105 false):=ao _ _;have n1:(St.new st (.cells [.bool n.leaf,vc,vk] 105 false)).nx=st.nx+1:=rfl;have f1:eH (St.new st (.cells [.bool n.leaf,vc,vk] 105 false)):=hf.new _;generalize St.new st (.cells [.bool n.leaf,vc,vk] 105 false)=s1 at*;have k2:=(Kp.refl [] s1).skip;have jx:(St.skip s1).m.g s1.nx=none:=f1 _ (aEQ _);have g2:(St.skip s1).m.g st.nx=some (.cells [.bool n.leaf,vc,vk] 105 false):=g1;have n2:(St.skip s1).nx=s1.nx+1:=rfl;have f2:=f1.skip;rw[bG];generalize St.skip s1=s2 at*;simp only[ah,af,aB,g2,aq,aER,aEN,aEL,ay];have JT:Sl s2 [] .ae 1 (aj []):=.inl ⟨rfl,rfl⟩;refine(Sa (f:=n.leaf) JT uG).mono ?_;intro x4 s3 m3;rw[aFt]at m3;have k3:=m3.kp;have n3:=k3.nx;have g3:=(k3.keep st.nx qE uG).trans g2;have ZS:=(k3.keep s1.nx qE uG).trans jx;have JW:=((k1.trans k2 uG).trans k3 uG);have hlen:=(h1.mono JW).len n.cells.length (bB _) qE s3;simp only[g3,aq,aEN,aEL,ay,hlen,af];have AO:gC [(0,1,I n.cells.length)] (cM 1 [(.int .i64 0)])=some [I n.cells.length]:=rfl;rw[jH ZS AO,aS];have k4:Kp [s1.nx] s3 (St.set s3 s1.nx (.cells [I n.cells.length] 3 false)):=(Kp.refl _ s3).set _ (.inl uG) qE;have g4:(St.set s3 s1.nx (.cells [I n.cells.length] 3 false)).m.g s1.nx=some (.cells [I n.cells.length] 3 false):=ar _ _ _;have n4:(St.set s3 s1.nx (.cells [I n.cells.length] 3 false)).nx=s3.nx:=rfl;have g4':(St.set s3 s1.nx (.cells [I n.cells.length] 3 false)).m.g st.nx=some (.cells [.bool n.leaf,vc,vk] 105 false):=(al _ _ _ _ qE).trans g3;have Vq:Kp [] st (St.set s3 s1.nx (.cells [I n.cells.length] 3 false)):=JW.set _ (.inr qE) qE
 have m4:Made 1 5 (aj (uv (if n.leaf=true then 1 else 0))) st x4 (St.set s3 s1.nx (.cells [I n.cells.length] 3 false)):=by
  obtain⟨F,a1,a2,a3⟩:=m3;exact⟨F,Vq,a2.mono λb hb=>al _ _ _ _ abQ,λb hb=>⟨abQ,(a3 b hb).2⟩⟩
 generalize St.set s3 s1.nx (.cells [I n.cells.length] 3 false)=s4 at*;have anu:Sl s4 [] (.slice s1.nx 0 1 1 0) 1 (cJ [n.cells.length]):=.inr ⟨s1.nx,0,1,1,0,rfl,rfl,⟨aEQ _,.inl rfl⟩,.inr ⟨uG,qE,_,_,_,g4,uG,rfl⟩⟩;have oO:=hn.cells;have hu1:(uv (if n.leaf=true then 1 else 0)).length=1:=eM abJ;refine(tV m4 anu (by intro k hk;simp at hk;show k<=2147483647;omega) uG qE).mono ?_;rintro x9 s5 ⟨m5,U1⟩;have aoR:eY [n.cells.length]=uv n.cells.length:=acV
 rw[aoR]at m5;have k5:=m5.kp;have g5:=(U1.keep st.nx qE uG).trans g4';have Rj:=(h1.mono k5).len n.cells.length (bB _) qE s5;have Zt:(uv n.cells.length).length<=2:=qF qE;simp only[jx,aq,ay,aEN,aEL,aHa,cV,aL,aM,fl,ah,af,aB,aER,g5,g4',Rj];refine bN (λfu vs s=>∃i x,fu+i=n.cells.length/\vs=[.ptr st.nx 0,x,vc,I n.cells.length,I i]/\Made 1 5 (aj (uv (if n.leaf=true then 1 else 0)++uv n.cells.length++cT n.leaf (n.cells.take i))) st x s/\s.m.g st.nx=some (.cells [.bool n.leaf,vc,vk] 105 false)/\st.nx<s.nx) ?_ (n:=n.cells.length) ⟨0,x9,rfl,rfl,by simpa[cT]using m5,g5,by have:=U1.nx;omega⟩;rintro fu vs s k ⟨i,x,hi,rfl,hx,gs,hns⟩ next;simp only[aL,aM,dC,af,ag];have mr:=hx.kp;have Rp:=mr.fresh hf
 by_cases hc:i<n.cells.length
 .rw[aEV hc,aEW rfl];refine(h1.mono mr).hO (L:=n.cells.map aU) qE (fp _) Dx _ ?_;have e:(n.cells.map aU)[i]'(by simpa using hc)=aU n.cells[i]:=by simp
  rw[e];refine mH rfl rfl (fx _) ?_;have vH:=hn.cell _ (aFj hc);have hle:=nM (leaf:=n.leaf) (l:=n.cells.take i) λc h=>hn.cell c (aFz h);rw[aFc]at hle;have JU:min i n.cells.length<=1000:=qE
  have e2:cT n.leaf (n.cells.take (i+1))=cT n.leaf (n.cells.take i)++iq n.leaf n.cells[i]:=by
   rw[aFe hc,eE];simp[cT]
  have hB:∀r:List UInt8,r=iq n.leaf n.cells[i]->(uv (if n.leaf=true then 1 else 0)++uv n.cells.length++cT n.leaf (n.cells.take i))++r=uv (if n.leaf=true then 1 else 0)++uv n.cells.length++cT n.leaf (n.cells.take (i+1)):=λr hr=>by rw[hr,e2];simp
  generalize dB:uv (if n.leaf=true then 1 else 0)++uv n.cells.length++cT n.leaf (n.cells.take i)=pre at*;have atN:pre.length<=200000:=by rw[<-dB,aEU,aEU];omega
  generalize n.cells[i]=c at*;have k3:Kp [] s (St.new s (.cells (aU c) 109 false)):=(Kp.refl _ s).new _;have g3:(St.new s (.cells (aU c) 109 false)).m.g s.nx=some (.cells [.str c.key,.str c.value,I c.dU,I c.size] 109 false):=ao _ _;have n3:(St.new s (.cells (aU c) 109 false)).nx=s.nx+1:=rfl;generalize St.new s (.cells (aU c) 109 false)=sa at*;have gsa:=(k3.keep st.nx hns uG).trans gs;simp only[ah,af,aB,g3,aq,aER,aEL,ay];have AM:=vH.key;refine(DD ((hx.keep k3).sl [] uG) qE (s:=c.key) qE).mono ?_;intro eg sb mb;have kb:=mb.kp;have G0:=kb.nx;have gb:=(kb.keep st.nx qE uG).trans gsa;have gc:=(kb.keep s.nx qE uG).trans g3;have ZX:Made 1 5 (aj (pre++(uv c.key.length++c.key))) st eg sb:=mb.after (mr.trans k3 uG);have Tt:(uv c.key.length).length=1:=eM qE;simp only[gb,aq,ay,aEL,cU,af,ag];cases fL:n.leaf with
  |false=>
   rw[aFf,aEW rfl,gH i qE,af];rw[fL]at hB;refine next (fu-1) _ _ qE ⟨i+1,eg,qE,rfl,?_,by rw[gb,fL],qE⟩;rw[fL,<-hB _ rfl];have:iq false c=uv c.key.length++c.key:=by unfold iq;simp
   rw[this];exact ZX
  |true=>
   rw[aFh,aET u7];rw[fL]at hB vH;have hfb:=ZX.kp.fresh hf;simp only[gc,aq,ay,aEN,aEL]
   by_cases h0:c.dU=0
   .obtain⟨JN,Ou⟩:=vH.short rfl h0;have e5:ai .eql (some .int) true (I c.dU) (.int .i64 0) sb=.ok (.bool true) sb:=by rw[h0];rfl
    simp only[e5,af,ag,aFm,bG];have Vd:(St.skip sb).m.g sb.nx=none:=hfb _ (aEQ _);have apx:gC [(0,1,(.int .i64 0))] (cM 1 [(.int .i64 0)])=some [I ((0:Nat):Int)]:=rfl;rw[jH Vd apx,aS];have kd:Kp [] sb (St.set (St.skip sb) sb.nx (.cells [I ((0:Nat):Int)] 3 false)):=((Kp.refl _ sb).skip).set _ (.inr (aEQ _)) uG;have gd:(St.set (St.skip sb) sb.nx (.cells [I ((0:Nat):Int)] 3 false)).m.g sb.nx=some (.cells [I ((0:Nat):Int)] 3 false):=ar _ _ _;have nd:(St.set (St.skip sb) sb.nx (.cells [I ((0:Nat):Int)] 3 false)).nx=sb.nx+1:=rfl;generalize St.set (St.skip sb) sb.nx (.cells [I ((0:Nat):Int)] 3 false)=sd at*;have ZB:Sl sd [] (.slice sb.nx 0 1 1 0) 1 (cJ [0]):=.inr ⟨sb.nx,0,1,1,0,rfl,rfl,⟨aEQ _,.inl rfl⟩,.inr ⟨uG,qE,_,_,_,gd,uG,rfl⟩⟩;refine(tV (ZX.keep kd) ZB (by intro k hk;simp at hk;show k<=2147483647;omega) uG (by rw[aEU,aEU];omega)).mono ?_;rintro gu se ⟨me,ke⟩;have aoS:eY [0]=uv 0:=acV
    rw[aoS]at me;have ij:=ke.nx;have gd':=(kd.keep s.nx qE uG).trans gc;have ge:=(ke.keep s.nx qE uG).trans gd';have ge':=(ke.keep st.nx qE uG).trans ((kd.keep st.nx qE uG).trans gb);have Zu:(uv 0).length=1:=eM qE;simp only[gd',ge,aq,aEN,aEL,ay];refine(DD (me.sl [] uG) (by rw[aEU,aEU,aEU];omega) (s:=c.value) qE).mono ?_;intro gO sf mf;have kf:=mf.kp;have hnf:=kf.nx;have gf':=(kf.keep st.nx qE uG).trans ge';simp only[gH i qE,af,and_true,aHa];refine next (fu-1) _ _ qE ⟨i+1,gO,qE,rfl,?_,by rw[gf',fL],qE⟩;rw[fL,<-hB _ rfl];have:iq true c=uv c.key.length++(c.key++(uv 0++(uv c.value.length++c.value))):=by unfold iq;simp[h0]
    rw[this];have:=mf.after me.kp
    simpa using this
   .obtain⟨JN,Ou,Xe,hs4⟩:=vH.far rfl h0;have e5:ai .eql (some .int) true (I c.dU) (.int .i64 0) sb=.ok (.bool false) sb:=by rw[az,cI,aEO qE]
    simp only[e5,af,ag,aEM,aFa];have Oz:bM 3 2 (cM 2 [(.int .i64 0)]) [(0,1,I c.dU),(1,1,I c.size)] sb=.ok (.slice sb.nx 0 2 2 0) (St.new sb (.cells [I c.dU,I c.size] 3 false)):=rfl;rw[Oz,aS];have kd:Kp [] sb (St.new sb (.cells [I c.dU,I c.size] 3 false)):=(Kp.refl _ sb).new _;have gd:(St.new sb (.cells [I c.dU,I c.size] 3 false)).m.g sb.nx=some (.cells [I c.dU,I c.size] 3 false):=ao _ _;have nd:(St.new sb (.cells [I c.dU,I c.size] 3 false)).nx=sb.nx+1:=rfl;generalize St.new sb (.cells [I c.dU,I c.size] 3 false)=sd at*;have ZB:Sl sd [] (.slice sb.nx 0 2 2 0) 1 (cJ [c.dU,c.size]):=.inr ⟨sb.nx,0,2,2,0,rfl,rfl,⟨aEQ _,.inl rfl⟩,.inr ⟨uG,qE,_,_,_,gd,uG,rfl⟩⟩;refine(tV (ZX.keep kd) ZB (by intro k hk;simp at hk;rcases hk with rfl|rfl<;>assumption) uG (by rw[aEU,aEU];omega)).mono ?_;rintro ju se ⟨me,ke⟩;have ij:=ke.nx;have ge':=(ke.keep st.nx qE uG).trans ((kd.keep st.nx qE uG).trans gb);simp only[gH i qE,af];refine next (fu-1) _ _ qE ⟨i+1,ju,qE,rfl,?_,by rw[ge',fL],qE⟩;rw[fL,<-hB _ rfl];have:iq true c=uv c.key.length++(c.key++(uv c.dU++uv c.size)):=by unfold iq;simp[h0]
    rw[this];have e6:eY [c.dU,c.size]=uv c.dU++uv c.size:=acV
    rw[e6]at me
    simpa using me
 .rw[aEO hc,aET u7];have ht:n.cells.take i=n.cells:=aEX qE;rw[ht]at hx;simp only[ah,af,aB,gs,aq,aER,aEN,aEL,ay,ag];have hle:=nM (leaf:=n.leaf) (l:=n.cells) hn.cell;cases fL:n.leaf with
  |true=>
   rw[aEW rfl];rw[fL]at hx;unfold mG;rw[fL]
   simpa using hx
  |false=>
   rw[aET u7];refine(tV hx (h2.mono mr) hn.CK (by have:=hn.kids;omega) (by rw[aEU,aEU];omega)).mono ?_;rintro iY se ⟨me,_⟩;rw[fL]at me;unfold mG;rw[fL]
   simpa using me
def bp.ok.b (h:n.ok)(hl:n.cells.length<=1000):Dq n:=⟨h.cell,h.CK,hl,by have:=h.jw;rw[this];split<;>omega⟩
def zf (hf:eH st)(h:IsNode st [] v n)(hn:n.ok)(hl:n.cells.length<=1000):R 105 [v] st λx st'=>x=I n.size/\Kp [] st st':=by
 have h':=h;obtain⟨vc,vk,rfl,h1,h2⟩:=h;refine bP ?_;rw[alo];rw[bV,aT];refine⟨rfl,?_⟩;have k1:Kp [] st (St.new st (.cells [.bool n.leaf,vc,vk] 105 false)):=(Kp.refl [] st).new _;have g1:(St.new st (.cells [.bool n.leaf,vc,vk] 105 false)).m.g st.nx=some (.cells [.bool n.leaf,vc,vk] 105 false):=ao _ _;have n1:(St.new st (.cells [.bool n.leaf,vc,vk] 105 false)).nx=st.nx+1:=rfl;generalize St.new st (.cells [.bool n.leaf,vc,vk] 105 false)=s1 at*;rw[aK (n:=3) g1 rfl,af];refine(A6 (h'.mono k1) hn qE).mono ?_;rintro _ s2 ⟨rfl,k2⟩;have nK:=k1.trans k2 uG;have g2:=(k2.keep st.nx qE uG).trans g1;simp only[cU,af,aFh,ag,aEM,aFa];rw[aK (n:=3) g2 rfl,af];refine(w9 (nK.fresh hf) (h'.mono nK) (hn.b hl)).mono ?_;intro x s3 m3;have:=m3.kp;rw[(m3.sl [] uG).len (mG n).length uG qE s3,af];exact⟨rfl,nK.trans m3.kp uG⟩
def NM (hf:eH st)(h:IsNode st [] v n)(hn:n.ok)(hs:n.size<=512):R 142 [v] st λy st'=>∃x,y=.tuple [x,I 0]/\Made 1 5 (aj (mG n)) st x st':=by
 have h':=h;obtain⟨vc,vk,rfl,h1,h2⟩:=h
 have hl:n.cells.length<=512:=by
  have:=eC n.leaf n.cells;rw[ck]at hs;omega
 refine bP ?_;rw[akF];rw[bV,aT];refine⟨rfl,?_⟩;have k1:Kp [] st (St.new st (.cells [.bool n.leaf,vc,vk] 105 false)):=(Kp.refl [] st).new _;have g1:(St.new st (.cells [.bool n.leaf,vc,vk] 105 false)).m.g st.nx=some (.cells [.bool n.leaf,vc,vk] 105 false):=ao _ _;have n1:(St.new st (.cells [.bool n.leaf,vc,vk] 105 false)).nx=st.nx+1:=rfl;generalize St.new st (.cells [.bool n.leaf,vc,vk] 105 false)=s1 at*;rw[aK (n:=3) g1 rfl,af];refine(A6 (h'.mono k1) hn qE).mono ?_;rintro _ s2 ⟨rfl,k2⟩;have nK:=k1.trans k2 uG;have g2:=(k2.keep st.nx qE uG).trans g1;simp only[cU,af,aFh,ag,aEM,aFa];rw[aK (n:=3) g2 rfl,af];refine(w9 (nK.fresh hf) (h'.mono nK) (hn.b qE)).mono ?_;intro x s3 m3
 have e1:ai .gtr none true (I (mG n).length) (.int .i64 512) s3=.ok (.bool false) s3:=by
  rw[az,dx,aEO (by unfold bp.size at hs;omega)]
 rw[(m3.sl [] uG).len (mG n).length uG qE s3];simp only[af,e1,ag,aEM,aFa];exact⟨x,rfl,m3.after nK⟩
end
end
section
variable {k:Nat}{z:List CV}{x v:CV}{F:List Nat}
section
variable {st st':St}
def ER (hz:z.length=k)(hx:x.cN.length=k)(ha:x.isAny=false):gC [(0,k,x)] (cM 1 z)=some x.cN:=by
 have:cM 1 z=z:=by simp[cM]
 rw[cR,aEW ⟨⟨hx,ha⟩,by rw[this];omega⟩,this,ld];rw[ep _ _ qE]
def xe {s:St}{b:Nat}{e:Nat}(bytes:Nat){L:List CV}{K:CV->St->CV->St->Prop}(h:Own s v k e L F)(hk:0<k)(hF:∀q∈F,q<s.nx/\q≠b)(hb:b<s.nx)(hn:s.m.g b=none)(hz:z.length=k)(hx:x.cN.length=k)(ha:x.isAny=false)(kz:bj x.cN=true)
 (hsz:(L.length+k)*(bytes+1)<=140737488355328) (hK:∀v' s2 F',Own s2 v' k e (L++x.cN) F'->Kp (b::F) s s2->(∀q∈F',(q∈F\/s.nx<=q)/\q<s2.nx)->K (.slice b 0 1 1 0) (St.set s b (.cells x.cN e false)) v' s2):
 upon (fG b e 1 (cM 1 z) [(0,k,x)] s) λx8 bO=>upon (bT e k bytes v (de .slice k z x8 bO) bO) λx9 ey=>K x8 bO x9 ey:=by
 rw[jH hn (ER hz hx ha),aS];have pP:Kp (b::F) s (St.set s b (.cells x.cN e false)):=(Kp.refl _ s).set _ (.inl uG) hb;have h1:Own (St.set s b (.cells x.cN e false)) v k e L F:=h.mono λq hq=>al _ _ _ _ (hF q hq).2;rw[Gp (k:=k) (n:=1) (ar _ _ _) qE qE];obtain⟨v',st',F',e1,e2,e3,e4⟩:=h1.append (n:=1) (bytes:=bytes) (T:=x.cN) hk qE kz (λq hq=>(hF q hq).1) (by rw[hx];exact hsz);rw[e1,aS];refine hK v' st' F' e2 (pP.trans e3 λq hq=>.inl TN) λq hq=>⟨(e4 q hq).1.imp id λh=>?_,(e4 q hq).2⟩;have:(St.set s b (.cells x.cN e false)).nx=s.nx:=rfl;omega
def Ya (r:Nat)(F:List Nat)(L:List UInt8)(st st':St):Prop:=Kp F st st'/\oG st' r F L
def VX {r:Nat}{L:List UInt8}{leaf:Bool}{c:dh}(h:oG st r F (iq leaf c++L))(hc:c.ok leaf)(hF:∀b∈F,b<st.nx):R 177 [.ptr r 0,.bool leaf] st λx st'=>x=.agg (aU c)/\Ya r F L st st':=by
 refine bP ?_;rw[ake];have k1:Kp F st (St.new st (.cells [.str [],.str [],.int .i64 0,.int .i64 0] 109 false)):=(Kp.refl F st).new _;have g1:(St.new st (.cells [.str [],.str [],.int .i64 0,.int .i64 0] 109 false)).m.g st.nx=some (.cells [.str [],.str [],.int .i64 0,.int .i64 0] 109 false):=ao _ _;have n1:(St.new st (.cells [.str [],.str [],.int .i64 0,.int .i64 0] 109 false)).nx=st.nx+1:=rfl;have r1:=h.keep ((Kp.refl [] st).new (.cells [.str [],.str [],.int .i64 0,.int .i64 0] 109 false)) uG;rw[cH,aS];generalize St.new st (.cells [.str [],.str [],.int .i64 0,.int .i64 0] 109 false)=s1 at*;have ij:∀b∈F,b≠st.nx:=λb hb=>by have:=hF b hb;omega
 have hnF:st.nx∉F:=λh=>ij _ h rfl;have e1:iq leaf c++L=uv c.key.length++(c.key++((if leaf=true then (if c.dU=0 then uv 0++(uv c.value.length++c.value)else uv c.dU++uv c.size)else [])++L)):=by unfold iq;simp
 rw[e1]at r1;refine(DQ (m:=48) r1 hc.key qE).mono ?_;rintro _ s2 ⟨rfl,k2,n2,r2⟩;have nD:bk [.str [],.str [],.int .i64 0,.int .i64 0] [(0,1,.str c.key)] s2=.ok (.agg [.str c.key,.str [],.int .i64 0,.int .i64 0]) s2:=rfl;rw[nD,af];have g2:=(k2.keep st.nx qE hnF).trans g1;refine mH rfl rfl rfl ?_;have k3:Kp F s2 (St.new s2 (.cells [.str c.key,.str [],.int .i64 0,.int .i64 0] 109 false)):=(Kp.refl F s2).new _;have g3:(St.new s2 (.cells [.str c.key,.str [],.int .i64 0,.int .i64 0] 109 false)).m.g s2.nx=some (.cells [.str c.key,.str [],.int .i64 0,.int .i64 0] 109 false):=ao _ _;have n3:(St.new s2 (.cells [.str c.key,.str [],.int .i64 0,.int .i64 0] 109 false)).nx=s2.nx+1:=rfl;have r3:=r2.keep ((Kp.refl [] s2).new (.cells [.str c.key,.str [],.int .i64 0,.int .i64 0] 109 false)) uG;have RZ:(St.new s2 (.cells [.str c.key,.str [],.int .i64 0,.int .i64 0] 109 false)).m.g st.nx=_:=(bg _ _ _ qE).trans g2;generalize St.new s2 (.cells [.str c.key,.str [],.int .i64 0,.int .i64 0] 109 false)=s3 at*;have jN:=(k1.trans k2 ael).trans k3 ael;have Ve:s2.nx∉F:=λh=>by have:=hF _ h;omega
 have fin:∀(s:St),Kp F st s->st.nx<s.nx->s2.nx<s.nx->s.m.g st.nx=some (.cells [.str [],.str [],.int .i64 0,.int .i64 0] 109 false)->s.m.g s2.nx=some (.cells (aU c) 109 false)->oG s r F L->
  us (aI 4 (.ptr s2.nx 0) s) λx6=>upon (aR 4 (.ptr st.nx 0) x6 s) λ_ s5=>us (aI 4 (.ptr st.nx 0) s5) λx7=>x7=.agg (aU c)/\Ya r F L st s5:=by
  intro s hk h1 h2 q1 q2 q3;rw[aK (n:=4) q2 rfl,af,aJ,q1,aW,aT];have:bD [.str [],.str [],.int .i64 0,.int .i64 0] 0 (aU c)=aU c:=ep _ _ rfl;rw[this];refine⟨⟨rfl,rfl,u7⟩,?_⟩;rw[aK (n:=4) (ar _ _ _) rfl,af];exact⟨rfl,hk.set _ (.inr (aEQ _)) h1,q3.keep (X:=[st.nx]) ((Kp.refl _ s).set _ (.inl uG) h1) abR⟩
 rw[cU,af,ag];cases leaf with
 |false=>
  obtain⟨h1,h2,h3⟩:=hc.inner rfl;rw[aFf,aEW rfl];simp only[aEM,aFa,aFt]at r3;refine fin s3 jN qE qE RZ ?_ r3;rw[g3];simp[aU,h1,h2,h3]
 |true=>
  rw[aFh,aET u7,cV];simp only[aFm]at r3
  by_cases h0:c.dU=0
  .obtain⟨h1,h2⟩:=hc.short rfl h0;rw[aEW h0]at r3;have e2:(uv 0++(uv c.value.length++c.value))++L=uv 0++(uv c.value.length++(c.value++L)):=by simp
   rw[e2]at r3;refine(kX (n:=0) (m:=2147483647) r3 qE qE).mono ?_;rintro _ s8 ⟨rfl,k8,n8,r8⟩;have g8:=(k8.keep s2.nx qE Ve).trans g3;have g8':=(k8.keep st.nx qE hnF).trans RZ;have kP:bD [.str c.key,.str [],.int .i64 0,.int .i64 0] 2 [I ((0:Nat):Int)]=[.str c.key,.str [],.int .i64 0,.int .i64 0]:=rfl;simp only[fst,fl,ah,af,aJ,g8,aW,aER,jc,kP,aB,ar,aq,aEN,aEL,ay];refine⟨⟨rfl,rfl,uG⟩,?_⟩;have k9:Kp F st (St.set s8 s2.nx (.cells [.str c.key,.str [],.int .i64 0,.int .i64 0] 109 false)):=(jN.trans k8 ael).set _ (.inr qE) qE;have g9:(St.set s8 s2.nx (.cells [.str c.key,.str [],.int .i64 0,.int .i64 0] 109 false)).m.g s2.nx=some (.cells [.str c.key,.str [],.int .i64 0,.int .i64 0] 109 false):=ar _ _ _;have g9':(St.set s8 s2.nx (.cells [.str c.key,.str [],.int .i64 0,.int .i64 0] 109 false)).m.g st.nx=_:=(al _ _ _ _ qE).trans g8';have n9:(St.set s8 s2.nx (.cells [.str c.key,.str [],.int .i64 0,.int .i64 0] 109 false)).nx=s8.nx:=rfl;have r9:=r8.keep (X:=[s2.nx]) ((Kp.refl [s2.nx] s8).set (p:=s2.nx) (.cells [.str c.key,.str [],.int .i64 0,.int .i64 0] 109 false) (.inl uG) qE) (λb hb=>Yj);generalize St.set s8 s2.nx (.cells [.str c.key,.str [],.int .i64 0,.int .i64 0] 109 false)=s9 at*;have e3:ai .eql (some .int) true (.int .i64 0) (.int .i64 0) s9=.ok (.bool true) s9:=rfl;simp only[e3,af,ag,aFm];refine(DQ (m:=64) r9 h2 qE).mono ?_;rintro _ sa ⟨rfl,ka,na,ra⟩;have ga:=(ka.keep s2.nx qE Ve).trans g9;have ga':=(ka.keep st.nx qE hnF).trans g9';have kx:bD [.str c.key,.str [],.int .i64 0,.int .i64 0] 1 [.str c.value]=[.str c.key,.str c.value,.int .i64 0,.int .i64 0]:=rfl;simp only[aJ,ga,aW,aER,FQ,kx,aL,aM];refine⟨⟨rfl,rfl,uG⟩,?_⟩
   have JZ:=fin _ ((k9.trans ka ael).set (p:=s2.nx) _ (.inr qE) qE) vR vR ((al _ _ _ (.cells [.str c.key,.str c.value,.int .i64 0,.int .i64 0] 109 false) qE).trans ga') (by rw[ar];simp[aU,h0,h1]) (ra.keep (X:=[s2.nx]) ((Kp.refl _ sa).set (p:=s2.nx) _ (.inl uG) qE) (λb hb=>Yj))
   simpa only[aJ,aER]using JZ
  .obtain⟨h1,h2,h3,h4⟩:=hc.far rfl h0;rw[aET h0,aFx]at r3;refine(kX (n:=c.dU) (m:=2147483647) r3 h2 qE).mono ?_;rintro _ s8 ⟨rfl,k8,n8,r8⟩;have g8:=(k8.keep s2.nx qE Ve).trans g3;have g8':=(k8.keep st.nx qE hnF).trans RZ;have kP:bD [.str c.key,.str [],.int .i64 0,.int .i64 0] 2 [I c.dU]=[.str c.key,.str [],I c.dU,.int .i64 0]:=rfl;simp only[fst,fl,ah,af,aJ,g8,aW,aER,jc,kP,aB,ar,aq,aEN,aEL,ay];refine⟨⟨rfl,rfl,uG⟩,?_⟩;have k9:Kp F st (St.set s8 s2.nx (.cells [.str c.key,.str [],I c.dU,.int .i64 0] 109 false)):=(jN.trans k8 ael).set _ (.inr qE) qE;have g9:(St.set s8 s2.nx (.cells [.str c.key,.str [],I c.dU,.int .i64 0] 109 false)).m.g s2.nx=some (.cells [.str c.key,.str [],I c.dU,.int .i64 0] 109 false):=ar _ _ _;have g9':(St.set s8 s2.nx (.cells [.str c.key,.str [],I c.dU,.int .i64 0] 109 false)).m.g st.nx=_:=(al _ _ _ _ qE).trans g8';have n9:(St.set s8 s2.nx (.cells [.str c.key,.str [],I c.dU,.int .i64 0] 109 false)).nx=s8.nx:=rfl;have r9:=r8.keep (X:=[s2.nx]) ((Kp.refl [s2.nx] s8).set (p:=s2.nx) (.cells [.str c.key,.str [],I c.dU,.int .i64 0] 109 false) (.inl uG) qE) (λb hb=>Yj);generalize St.set s8 s2.nx (.cells [.str c.key,.str [],I c.dU,.int .i64 0] 109 false)=s9 at*;have e3:ai .eql (some .int) true (I c.dU) (.int .i64 0) s9=.ok (.bool false) s9:=by rw[az,cI,aEO qE]
   simp only[e3,af,ag,aEM,aFa];refine(kX (n:=c.size) (m:=2147483647) r9 h4 qE).mono ?_;rintro _ sa ⟨rfl,ka,na,ra⟩;have ga:=(ka.keep s2.nx qE Ve).trans g9;have ga':=(ka.keep st.nx qE hnF).trans g9';have kx:bD [.str c.key,.str [],I c.dU,.int .i64 0] 3 [I c.size]=[.str c.key,.str [],I c.dU,I c.size]:=rfl;simp only[aJ,ga,aW,aER,jc,kx,aL,aM];refine⟨⟨rfl,rfl,uG⟩,?_⟩;have JZ:=fin _ ((k9.trans ka ael).set (p:=s2.nx) _ (.inr qE) qE) vR vR ((al _ _ _ (.cells [.str c.key,.str [],I c.dU,I c.size] 109 false) qE).trans ga') (by rw[ar];simp[aU,h1]) (ra.keep (X:=[s2.nx]) ((Kp.refl _ sa).set (p:=s2.nx) _ (.inl uG) qE) (λb hb=>Yj))
   simpa only[aJ,aER]using JZ
def bp.hasB (n:bp)(key:cn):Bool:=match n.cells[n.find key]? with|some c=>decide (c.key=key)|none=>false
def R7 {n:bp}{key:cn}(h:IsNode st [] v n)(hl:n.cells.length<=100000):R 91 [v,.str key] st λx st'=>x=.tuple [I (n.find key),.bool (n.hasB key)]/\Kp [] st st':=by
 obtain⟨vc,vk,rfl,h1,h2⟩:=h;refine bP ?_;rw[w91];rw[bV,aT];refine⟨rfl,?_⟩;have k1:Kp [] st (St.new st (.cells [.bool n.leaf,vc,vk] 105 false)):=(Kp.refl [] st).new _;have g1:(St.new st (.cells [.bool n.leaf,vc,vk] 105 false)).m.g st.nx=some (.cells [.bool n.leaf,vc,vk] 105 false):=ao _ _;have n1:(St.new st (.cells [.bool n.leaf,vc,vk] 105 false)).nx=st.nx+1:=rfl;generalize St.new st (.cells [.bool n.leaf,vc,vk] 105 false)=s1 at*;rw[bV,FQ];refine⟨rfl,?_⟩;have k2:Kp [] s1 (St.new s1 (.cells [.str key] 9 false)):=(Kp.refl [] s1).new _;have g2:(St.new s1 (.cells [.str key] 9 false)).m.g s1.nx=some (.cells [.str key] 9 false):=ao _ _;have n2:(St.new s1 (.cells [.str key] 9 false)).nx=s1.nx+1:=rfl;generalize St.new s1 (.cells [.str key] 9 false)=s2 at*;have rj:=(k2.keep st.nx qE uG).trans g1;have nK:=k1.trans k2 uG;simp only[fl,ah,af,aB,rj,aq,aER,aEN,aEL,ay,lB]
 have amU:R 139 [vc,.func (.func 140) [] [.ptr s1.nx 0]] s2 λx s=>x=(if n.find key<n.cells.length then I (n.find key)else .int .i64 (-1))/\Kp [] s2 s:=by
  refine bP ?_;rw[akI];have hlen:=(h1.mono nK).len n.cells.length (bB _) qE s2;simp only[cV,aL,aM,hlen,af];refine bN (λfu vs s=>∃i,fu+i=n.cells.length/\i<=n.find key/\vs=[vc,.func (.func 140) [] [.ptr s1.nx 0],I n.cells.length,I i]/\Kp [] s2 s) ?_ (n:=n.cells.length) ⟨0,rfl,aHt _,rfl,Kp.refl _ _⟩;rintro fu vs s k ⟨i,hi,hif,rfl,mr⟩ next;simp only[aL,aM,dC,af,ag]
  by_cases hc:i<n.cells.length
  .rw[aEV hc,aEW rfl];have Z6:=nK.trans mr uG;refine(h1.mono Z6).hO (L:=n.cells.map aU) qE (fp _) Dx _ ?_;have e:(n.cells.map aU)[i]'(by simpa using hc)=aU n.cells[i]:=by simp
   rw[e,dM];refine bP ?_;simp only[aFt,aFS];rw[akH];rw[bV,aT];refine⟨rfl,?_⟩;have g4:(St.new s (.cells (aU n.cells[i]) 109 false)).m.g s.nx=some (.cells [.str n.cells[i].key,.str n.cells[i].value,I n.cells[i].dU,I n.cells[i].size] 109 false):=ao _ _;have k4:Kp [] s (St.new s (.cells (aU n.cells[i]) 109 false)):=(Kp.refl _ s).new _;have gk:=(k4.keep s1.nx (by have:=mr.nx;omega) uG).trans ((mr.keep s1.nx qE uG).trans g2);generalize St.new s (.cells (aU n.cells[i]) 109 false)=s4 at*;simp only[fl,ah,af,aB,g4,gk,aq,aER,aEL,ay,eA,wh,ag]
   by_cases hp:lp key n.cells[i].key
   .rw[aEV hp,aEW rfl]
    have Rr:n.find key<=i:=by
     rcases aGh i (n.find key)with h|h
     .have:=List.not_of_lt_findIdx h;simp[hp]at this
     .exact h
    have:n.find key=i:=qE
    rw[this,aEW hc];exact⟨rfl,mr.trans k4 uG⟩
   .rw[aEO hp,aET u7,gH i qE,af];refine next (fu-1) _ _ qE ⟨i+1,qE,?_,rfl,mr.trans k4 uG⟩;rcases aHe hif with h|h
    .exfalso;have:=List.findIdx_getElem (p:=λc:dh=>decide (lp key c.key)) (xs:=n.cells) (w:=O7);simp only[aGa]at this;refine hp ?_;have e3:n.cells[i]=n.cells[List.findIdx (λc:dh=>decide (lp key c.key)) n.cells]'(by rw[show List.findIdx (λc:dh=>decide (lp key c.key)) n.cells=n.find key from rfl,<-h];exact hc):=by congr 1
     rw[e3];exact this
    .exact h
  .rw[aEO hc,aET u7,aET qE];exact⟨rfl,mr⟩
 refine amU.mono ?_;rintro _ s3 ⟨rfl,k3⟩;have jN:=nK.trans k3 uG;have nE:=(k3.keep st.nx qE uG).trans rj;have Hu:=(k3.keep s1.nx qE uG).trans g2;have hle:n.find key<=n.cells.length:=aGZ
 by_cases hf:n.find key<n.cells.length
 .rw[aEW hf];have e1:ai .lss none true (I (n.find key)) (.int .i64 0) s3=.ok (.bool false) s3:=by rw[az,c8,aEO qE]
  obtain⟨b,p,l,t,g,q1,q2,q3,q4,q5⟩:=(h1.mono jN).cellAt (L:=n.cells.map aU) qE (fp _) (i:=n.find key) (by simpa using hf);have q6:=q5 0 (.str n.cells[n.find key].key) TT;rw[aFC]at q6
  have e4:n.hasB key=decide (n.cells[n.find key].key=key):=by
   unfold bp.hasB;rw[aES hf]
  simp only[e1,af,ag,aEM,aFa,bG,ah,aB,nE,aq,aFC,aEN,aEL,ay,q1,q2,q6,Hu,eA,lA,e4,aHa,and_true];exact jN
 .rw[aET hf];have e1:ai .lss none true (.int .i64 (-1)) (.int .i64 0) s3=.ok (.bool true) s3:=rfl;have hlen:=(h1.mono jN).len n.cells.length (bB _) qE s3;have e2:n.find key=n.cells.length:=by omega
  have e4:n.hasB key=false:=by
   unfold bp.hasB;rw[aFQ qE]
  simp only[e1,af,ag,aFm,nE,aq,aEN,aEL,ay,hlen,e4,e2];exact⟨aer,jN⟩
end
end
