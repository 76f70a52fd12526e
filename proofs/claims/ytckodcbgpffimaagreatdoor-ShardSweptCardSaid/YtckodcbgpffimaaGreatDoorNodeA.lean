import Derived.Test.YtckodcbgpffimaaGreatDoorTree
import Derived.Test.YtckodcbgpffimaaGreatDoorPagB
namespace Lim
open Go
noncomputable section
set_option linter.defProp false
set_option maxRecDepth 100000
section
variable {n:Nat}{X:δ Nat}{v:K}{k:Nat}{L:δ (δ K)}{i:Nat}
def Fm (Z:O)(x y:tp):O.set (O.new Z x) Z.nx y=O.new Z y:=by
 simp only[O.set,O.new,O.mk.injEq,and_true];exact PT.ext λp=>by simp only[PT.fw];split<;>rfl
def gW {t:Nat}{z T:δ K}{s:O}{a:K->O->Prop}(e:z.length=n)(c:T.length=n)(b:bh T=θ)(d:a (.ptr s.nx 0) (O.new s (.cells T t false))):E (cK t z s) λx s2=>E (aJ n x (.agg T) s2) λ_ s3=>a x s3:=by
 rw[bW,aP,aK,ay];have:bC z 0 T=T:=db _ _ J;rw[aU,aN,this,Fm];exact⟨⟨c,b,J⟩,d⟩
def ba (c:dq):δ K:=[.str c.key,.str c.value,I c.dX,I c.size]
def bL (l:δ dq):δ K:=(l.map ba).flatten
def cR (l:δ Nat):δ K:=l.map λn:Nat=>I n
def gH (l:δ dq):∀x∈l.map ba,x.length=4:=by
 intro x a;obtain⟨c,_,rfl⟩:=lm.1 a;rfl
def bN (l:δ dq):(bL l).length=l.length*4:=by unfold bL;rw[dU (gH l)];simp
@[simp] def rT (l:δ Nat):(cR l).length=l.length:=by simp[cR]
def iY (a b:δ dq):bL (a++b)=bL a++bL b:=by simp[bL]
def pF (a b:δ Nat):cR (a++b)=cR a++cR b:=by simp[cR]
def ml (l:δ dq)(i:Nat)(h:i<=l.length):(bL l).take (i*4)=bL (l.take i):=by
 unfold bL;rw[vy (gH l) i GU,L3]
def mm (l:δ dq)(i:Nat)(h:i<=l.length):(bL l).drop (i*4)=bL (l.drop i):=by
 unfold bL;rw[vz (gH l) i GU,JO]
def wW (l:δ Nat)(i:Nat):(cR l).take i=cR (l.take i):=by unfold cR;rw[L3]
def wX (l:δ Nat)(i:Nat):(cR l).drop i=cR (l.drop i):=by unfold cR;rw[JO]
@[simp] def iu (c:dq):bh (ba c)=θ:=rfl
@[simp] def fv (l:δ dq):bh (bL l)=θ:=by
  induction l with
  |nil=>rfl
  |cons c l a=>
   have:bL (c::l)=ba c++bL l:=by simp[bL]
   rw[this,Aq,a];rfl
@[simp] def kM (l:δ Nat):bh (cR l)=θ:=by
  induction l with
  |nil=>rfl
  |cons c l a=>show(cI (I c)&&bh (cR l))=θ;rw[a];rfl
section
variable {Z Z':O}
def Sl.fj (f:Sl Z X v k L.flatten)(c:0<k)(a:∀x∈L,x.length=k)(hi:i<L.length)(Q:K->Prop)(j:Q (.agg L[i])):Lim.fj k k v (I i) Z Q:=by
 have hlen:=dU a;rcases f with⟨rfl,h⟩|⟨b,off,len,cap,grow,rfl,q,p,d⟩
 .rw[h]at hlen;have:0<L.length*k:=Nat.mul_pos J c;simp at hlen;omega
 .have:len=L.length:=So c (by rw[<-q,hlen]);subst this;rcases d with d|⟨_,_,l,t,g,o,r,m⟩
  .omega
  .unfold Lim.fj;rw[iq hi (.inr p.1)]
   have s:i*k+k<=L.length*k:=by
    calc i*k+k=(i+1)*k:=by rw[tx,Li]
     _<=L.length*k:=zv k hi
   simp only[af,nW,o,ak,yj];refine⟨J,?_⟩
   have e:(l.drop (off+i*k)).take k=L[i]:=by
    rw[<-uE a i hi,<-m,St,aOe,AQ,us J]
   rw[e];exact j
def Sl.cellAt (f:Sl Z X v k L.flatten)(d:0<k)(a:∀x∈L,x.length=k)(hi:i<L.length):∃b p l t g,(∀s,de k v (I i) s=.ok (.ptr b p) s)/\Z.m.g b=Φ (.cells l t g)/\b<Z.nx/\b∉X/\∀o x,L[i][o]?=Φ x->l[p+o]?=Φ x:=by
 have hlen:=dU a;rcases f with⟨rfl,h⟩|⟨b,off,len,cap,grow,rfl,z,y,e⟩
 .rw[h]at hlen;have:0<L.length*k:=Nat.mul_pos J d;simp at hlen;omega
 .have:len=L.length:=So d (by rw[<-z,hlen]);subst this;rcases e with e|⟨w,u,l,t,g,r,C,q⟩
  .omega
  .refine⟨b,off+i*k,l,t,g,iq hi (.inr y.1),r,u,w,λo x c=>?_⟩
   have D:i*k+k<=L.length*k:=by
    calc i*k+k=(i+1)*k:=by rw[tx,Li]
     _<=L.length*k:=zv k hi
   have j:o<k:=by
    obtain⟨h,_⟩:=qo.1 c;rw[a _ (mp hi)]at h;exact h
   rw[<-c,<-TO a i hi o j,<-q,ý,gq J,aNS]
   congr 1;omega
def IsNode (Z:O)(X:δ Nat)(v:K)(n:bp):Prop:=∃b a,v=.agg [.bool n.leaf,b,a]/\Sl Z X b 4 (bL n.cells)/\Sl Z X a 1 (cR n.kids)
def IsNode.mono {n:bp}(h:IsNode Z X v n)(a:Kp X Z Z'):IsNode Z' X v n:=by
 obtain⟨c,b,f,e,d⟩:=h;exact⟨c,b,f,e.mono a,d.mono a⟩
def IsNode.fc {Y:δ Nat}{n:bp}(h:IsNode Z X v n)(a:∀q∈Y,q∈X\/Z.nx<=q):IsNode Z Y v n:=by
 obtain⟨c,b,f,e,d⟩:=h;exact⟨c,b,f,e.fc a,d.fc a⟩
def Cj {least:Nat}:Rq0 263 [I n,I least] Z λv Z'=>v=.bool (decide (least<=n/\n<=kj))/\Z'=Z:=by
 refine bE ?_;rw[aoM]
 by_cases a:least<=n
 .have e1:(least:Int)<=n:=by omega
  have b:((n:Int)<=2147483647)↔n<=kj:=by show _↔n<=2147483647;omega
  simp[a,e1,b]
 .have e1:¬(least:Int)<=n:=by omega
  simp[a,e1]
def abI {c:dq}{leaf:Bool}(h:c.ok leaf):Rq0 260 [.agg (ba c),.bool leaf] Z λv Z'=>v=.bool true/\Kp [] Z Z':=by
 refine bE ?_;rw[aoP];rw[bz,aN];refine⟨rfl,?_⟩;have f:Kp [] Z (O.new Z (Ϛ (ba c))):=(Δ [] Z).new _;have b:(O.new Z (Ϛ (ba c))).m.g Z.nx=Φ (Ϛ [.str c.key,.str c.value,I c.dX,I c.size]):=ay _ _;generalize O.new Z (Ϛ (ba c))=s1 at*;have s:¬(48:Int)<c.key.length:=by have:=h.key;omega
 simp only[fl,vr,b,io,eN,au,cQ,s,FS,ll,ii,bZ];cases leaf with
 |false=>
  obtain⟨a,d,j⟩:=h.inner rfl;rw[ra,gq rfl,aG (n:=4) b rfl,af];simp[eK,cW,bC,yd,mN,zE,fR,andThen,iv,a,d,j,f]
 |true=>
  rw[r8,B tW]
  by_cases e:c.dX=0
  .obtain⟨a,d⟩:=h.short rfl e;have l:(c.value.length:Int)<=64:=by omega
   simp[e,a,b,gG,l,f]
  .obtain⟨a,d,j,o⟩:=h.far rfl e;have l:¬(c.dX:Int)=0:=by omega
   simp[a,b,gG,e];refine(Cj (n:=c.dX) (least:=1)).same ?_;have r:1<=c.dX:=J
   have q:decide (1<=c.dX/\c.dX<=kj)=θ:=jp ⟨r,d⟩;have p:decide (1<=c.size/\c.size<=kj)=θ:=jp ⟨j,o⟩;simp only[q,b,rb,AC,ix,aW,dH,av,kc,io];refine(Cj (n:=c.size) (least:=1)).same ?_;simp only[p];exact⟨gt,f⟩
end
end
section
variable {Z Z':O}
def fV (i:Nat)(h:i<=4000000000000000000)(s:O)(d:υ lB):R .add d true (I i) ϖ s=.ok (ζ (i+1)) s:=AU
def CX (i:Nat)(h:i<=4000000000000000000)(a:0<i)(s:O)(d:υ lB):R .sub d true (I i) ϖ s=.ok (ζ (i-1)) s:=CS
def dd (i n:Nat)(s:O)(d:υ lB)(c:Bool):R .lss d c (I i) (I n) s=.ok (.bool (decide (i<n))) s:=aai
def WL {X:δ Nat}{v:K}{l:δ Nat}(c:Sl Z X v 1 (cR l))(j:l.length<=1000000)(f:∀k∈l,k<=kj):Rq0 261 [v,.func (.func 262) [] []] Z λx Z'=>x=.bool false/\Kp [] Z Z':=by
 refine bE ?_;rw[aoO]
 have key:Rq0 284 [v,.func (.func 262) [] []] Z λx Z'=>x=I (-1)/\Kp [] Z Z':=by
  refine bE ?_;rw[aoH];have hlen:=c.len l.length V J Z;simp only[yB,hlen,af];refine bD (λfu b s=>∃i,fu+i=l.length/\b=[v,.func (.func 262) [] [],I l.length,I i]/\Kp [] Z s) ?_ (n:=l.length) ⟨0,rfl,rfl,Δ _ _⟩;rintro fu b s k ⟨i,hi,rfl,a⟩ next;simp only[DJ,dd]
  by_cases hc:i<l.length
  .rw[jp hc,gq rfl];have d:=(c.fc (Y:=[]) V).mono a;refine d.idx (i:=i) EV _ ?_;have e:(cR l)[i]'(by simpa using hc)=I l[i]:=by simp[cR]
   rw[e,dv];simp only[ow,zo];refine bE ?_;rw[aoN];refine(Cj (n:=l[i]) (least:=0)).same ?_;have g:decide (0<=l[i]/\l[i]<=kj)=θ:=jp ⟨J,f _ (mp hc)⟩;simp only[g,Gz,ll,ii,fV i J];exact next (fu-1) _ _ J ⟨i+1,J,rfl,a⟩
  .rw[jo hc,B tW];exact⟨gt,a⟩
 refine key.mono ?_;rintro _ s ⟨rfl,h⟩;simp[h]
def Co {v:K}{n:bp}(h:IsNode Z [] v n)(q:n.ok)(hl:n.cells.length<=100000):Rq0 237 [v] Z λx Z'=>x=.bool true/\Kp [] Z Z':=by
 obtain⟨c,a,rfl,u,X⟩:=h;refine bE ?_;rw[apc];rw[bz,aN];refine⟨rfl,?_⟩;have y:Kp [] Z (O.new Z (Ϙ [.bool n.leaf,c,a])):=(Δ [] Z).new _;have G:(O.new Z (Ϙ [.bool n.leaf,c,a])).m.g Z.nx=Φ (Ϙ [.bool n.leaf,c,a]):=ay _ _;have n1:(O.new Z (Ϙ [.bool n.leaf,c,a])).nx=Z.nx+1:=rfl;generalize O.new Z (Ϙ [.bool n.leaf,c,a])=s1 at*;have hlen:=(u.mono y).len n.cells.length (bN _) J s1;simp only[yB,fl,ly,G,kc,io,hlen];refine bD (λfu N s=>∃i,fu+i=n.cells.length/\N=[.ptr Z.nx 0,c,I n.cells.length,I i]/\Kp [] s1 s) ?_ (n:=n.cells.length) ⟨0,rfl,rfl,Δ _ _⟩;rintro fu N s k ⟨i,hi,rfl,r⟩ next;have F:=(r.keep Z.nx J V).trans G;have d:=y.trans r V;simp only[DJ,dd]
 by_cases hc:i<n.cells.length
 .rw[jp hc,gq rfl];refine(u.mono d).fj (L:=n.cells.map ba) J (gH _) EV _ ?_;have e:(n.cells.map ba)[i]'(by simpa using hc)=ba n.cells[i]:=by simp
  rw[e];refine gW rfl rfl (iu _) ?_;have T:Kp [] s (O.new s (Ϛ (ba n.cells[i]))):=(Δ _ s).new _;have Y:(O.new s (Ϛ (ba n.cells[i]))).m.g s.nx=Φ (Ϛ [.str n.cells[i].key,.str n.cells[i].value,I n.cells[i].dX,I n.cells[i].size]):=ay _ _;have n3:(O.new s (Ϛ (ba n.cells[i]))).nx=s.nx+1:=rfl;generalize O.new s (Ϛ (ba n.cells[i]))=s3 at*;have D:=(T.keep Z.nx (by have:=d.nx;have:=r.nx;omega) V).trans F;rw[aZ,aG (n:=4) Y rfl];simp only[ly,D,io];refine(abI (q.cell _ (mp hc))).mono ?_;rintro _ P ⟨rfl,S⟩;have w:=(r.trans T V).trans S V;have H:=y.trans w V;have TH:=(S.keep s.nx J V).trans Y;have g6:=(w.keep Z.nx J V).trans G;have e1:R .gtr ν true (I i) μ P=.ok (.bool (decide (0<i))) P:=yZ
  simp only[Gz,aD,yU,ii,tw,e1]
  by_cases C:0<i
  .rw[jp C];obtain⟨b,p,cl,ct,cg,q1,q2,_,_,q3⟩:=((u.mono H)).cellAt (L:=n.cells.map ba) J (gH _) (i:=i-1) xI;have Q:=q3 0 (.str n.cells[i-1].key) QV;rw[rc]at Q;simp only[ix,aW,ah,rb,av,g6,rc,kc,io,CX i J C,q1,q2,Q];have z:eI n.cells[i-1].key n.cells[i].key:=aNB.1 q.sorted _ _ _ _ J;have e9:¬lO n.cells[i].key n.cells[i-1].key:=λh=>h z;simp only[TH,lW,io,fG,xW,e9,FS,aC,ix,ii,ll,fV i J];refine⟨⟨gt,gt,gt,gt,gt,gt⟩,gt,?_⟩;exact next (fu-1) _ _ J ⟨i+1,J,rfl,w⟩
  .rw[jo C];simp only[ii,ix,bA,aC,ll,fV i J];refine⟨⟨gt,gt,gt,gt,gt,gt⟩,gt,?_⟩;exact next (fu-1) _ _ J ⟨i+1,J,rfl,w⟩
 .rw[jo hc,B tW];have M:=(u.mono d).len n.cells.length (bN _) J s;have SX:=(X.mono d).len n.kids.length V J s;have f:=q.kR;simp only[ly,F,kc,io,M,fV n.cells.length J,ag];have BS:n.kids.length<=1000000:=by rw[f];split<;>omega
  have l:∀m:Nat,n.kids.length=m->
   U (aY .slice a s) (λjQ=>U (R BinOp.eql (Φ lB.int) false jQ (K.int IntKind.i64 m) s) λo=>
    gG (bj true o) 2 (K.ptr Z.nx 0) s λjH=>iF (bj true o) s (λk=>Rq0 261 [jH,K.func (Fn.func 262) [] []] s k) λlC j=>U (kx (bj true o) j (kZ UnOp.not lC j)) λlD=>U (bg o lD (K.bool false) j) λmo=>mo=K.bool true/\Kp [] Z j):=by
   intro m hm;have e5:R .eql ψ false (I n.kids.length) (I m) s=.ok ι s:=by rw[au,cn,jp J]
   simp only[SX,ly,e5,aD,ix,gG,aW,dH,F,kc,io];refine(WL (X.mono d) BS q.Ek).mono ?_;rintro _ j ⟨rfl,k8⟩;simp only[bZ,af,aC,ix,ra];exact⟨gt,d.trans k8 V⟩
  cases W:n.leaf with
  |true=>rw[gq rfl];rw[W,gq rfl]at f;exact l 0 f
  |false=>rw[B tW];rw[W,B tW]at f;exact l _ f
end
section
variable {k e:Nat}{L:δ K}{s0 s s':O}{x v:K}{n:bp}
section
variable {Z Z':O}
def Made.after (h:Kp [] s0 s)(m:Made k e L s x s'):Made k e L s0 x s':=by
 obtain⟨F,f,d,c⟩:=m;exact⟨F,h.trans f V,d,λb a=>⟨by have:=(c b a).1;have:=h.nx;omega,(c b a).2⟩⟩
def Made.kp (m:Made k e L s0 x s):Kp [] s0 s:=by obtain⟨F,a,_⟩:=m;exact a
def Made.keep (m:Made k e L s0 x s)(h:Kp [] s s'):Made k e L s0 x s':=by
 obtain⟨F,f,d,c⟩:=m;exact⟨F,f.trans h V,d.keep h λb a=>⟨(c b a).2,V⟩,λb a=>⟨(c b a).1,by have:=(c b a).2;have:=h.nx;omega⟩⟩
def vF {l:K}{b:δ Γ}{ks:δ Nat}(q:Made 1 5 (al b) s0 v Z)(g:Sl Z [] l 1 (cR ks))(j:∀k∈ks,k<=kj)(y:ks.length<=10000)(u:b.length<=800000):Rq0 278 [v,l] Z λx Z'=>Made 1 5 (al (b++fo ks)) s0 x Z'/\Kp [] Z Z':=by
 refine bE ?_;rw[aoK];have hlen:=g.len ks.length V J Z;simp only[yB,hlen,af];refine bD (λfu f s=>∃i x,fu+i=ks.length/\f=[x,l,I ks.length,I i]/\Made 1 5 (al (b++fo (ks.take i))) s0 x s/\Kp [] Z s) ?_ (n:=ks.length) ⟨0,v,rfl,rfl,by simpa[fo]using q,Δ _ _⟩;rintro fu f s k ⟨i,x,hi,rfl,a,c⟩ next;simp only[DJ,dd]
 by_cases hc:i<ks.length
 .rw[jp hc,gq rfl];refine(g.mono c).idx (i:=i) EV _ ?_;have e:(cR ks)[i]'(by simpa using hc)=I ks[i]:=by simp[cR]
  rw[e];have d:=j _ (mp hc);have p:=rU (l:=ks.take i) λk h=>j k (ww h);rw[pu]at p;have w:min i ks.length<=10000:=J
  refine(qp (a.sl [] V) (n:=ks[i]) (by rw[km];omega) d).mono ?_;intro o s' m;simp only[fV i J,af];refine next (fu-1) _ _ J ⟨i+1,o,J,rfl,?_,c.trans m.kp V⟩
  have r:b++fo (ks.take (i+1))=b++fo (ks.take i)++uv ks[i]:=by
   rw[su hc,jO];simp[fo]
  rw[r];exact m.after a.kp
 .rw[jo hc,B tW];have:ks.take i=ks:=lw J;rw[this]at a;exact⟨a,c⟩
structure EP (n:bp):Prop where
 cell:∀c∈n.cells,c.ok n.leaf
 Ek:∀k∈n.kids,k<=kj
 cells:n.cells.length<=1000
 kids:n.kids.length<=1001
def yN (hf:dV Z)(h:IsNode Z [] v n)(H:EP n):Rq0 248 [v] Z (Made 1 5 (al (oo n)) Z):=by
 obtain⟨o,p,rfl,h1,h2⟩:=h;refine bE ?_;rw[aoW];rw[bz,aN];refine⟨rfl,?_⟩;have k1:Kp [] Z (O.new Z (Ϙ [.bool n.leaf,o,p])):=(Δ [] Z).new _;have g1:(O.new Z (Ϙ [.bool n.leaf,o,p])).m.g Z.nx=Φ (Ϙ [.bool n.leaf,o,p]):=ay _ _;have n1:(O.new Z (Ϙ [.bool n.leaf,o,p])).nx=Z.nx+1:=rfl;have f1:dV (O.new Z (Ϙ [.bool n.leaf,o,p])):=hf.new _;generalize O.new Z (Ϙ [.bool n.leaf,o,p])=s1 at*;have k2:=(Δ [] s1).skip;have gX:(O.skip s1).m.g s1.nx=ν:=f1 _ (hI _);have g2:(O.skip s1).m.g Z.nx=Φ (Ϙ [.bool n.leaf,o,p]):=g1;have n2:(O.skip s1).nx=s1.nx+1:=rfl;have f2:=f1.skip;rw[aZ];generalize O.skip s1=s2 at*;simp only[ly,g2,kc,io];have BN:Sl s2 [] .ae 1 (al []):=.inl ⟨rfl,rfl⟩;refine(Jn (f:=n.leaf) BN V).mono ?_;intro x4 j m3;rw[ow]at m3;have w:=m3.kp;have n3:=w.nx;have W:=(w.keep Z.nx J V).trans g2;have an:=(w.keep s1.nx J V).trans gX;have Mj:=((k1.trans k2 V).trans w V);have hlen:=(h1.mono Mj).len n.cells.length (bN _) J j;simp only[W,kc,io,hlen,rb];have BV:gY [(0,1,I n.cells.length)] (cr 1 [μ])=Φ [I n.cells.length]:=rfl;rw[fY an BV,aP];have k4:Kp [s1.nx] j (O.set j s1.nx (Ϝ [I n.cells.length])):=(Δ _ j).set _ (.inl V) J;have g4:(O.set j s1.nx (Ϝ [I n.cells.length])).m.g s1.nx=Φ (Ϝ [I n.cells.length]):=ao ..;have n4:(O.set j s1.nx (Ϝ [I n.cells.length])).nx=j.nx:=rfl;have T:(O.set j s1.nx (Ϝ [I n.cells.length])).m.g Z.nx=Φ (Ϙ [.bool n.leaf,o,p]):=(ar _ _ _ _ J).trans W;have Xt:Kp [] Z (O.set j s1.nx (Ϝ [I n.cells.length])):=Mj.set _ (.inr J) J
 have m4:Made 1 5 (al (uv (if n.leaf=θ then 1 else 0))) Z x4 (O.set j s1.nx (Ϝ [I n.cells.length])):=by
  obtain⟨F,a1,a2,a3⟩:=m3;exact⟨F,Xt,a2.mono λb hb=>ar _ _ _ _ aci,λb hb=>⟨aci,(a3 b hb).2⟩⟩
 generalize O.set j s1.nx (Ϝ [I n.cells.length])=s4 at*;have am:Sl s4 [] (.slice s1.nx 0 1 1 0) 1 (cR [n.cells.length]):=.inr ⟨s1.nx,0,1,1,0,rfl,rfl,⟨hI _,.inl rfl⟩,.inr ⟨V,J,_,_,_,g4,V,rfl⟩⟩;have qS:=H.cells;have aq:(uv (if n.leaf=θ then 1 else 0)).length=1:=eY Ys;refine(vF m4 am (by intro k M;simp at M;show k<=2147483647;omega) V J).mono ?_;rintro x9 s5 ⟨m5,WW⟩;have aj:fo [n.cells.length]=uv n.cells.length:=ð
 rw[aj]at m5;have k5:=m5.kp;have g5:=(WW.keep Z.nx J V).trans T;have S8:=(h1.mono k5).len n.cells.length (bN _) J s5;have ap:(uv n.cells.length).length<=2:=sF J;simp only[gX,kc,io,sE,yB,fl,ly,g5,T,S8];refine bD (λfu vs s=>∃i x,fu+i=n.cells.length/\vs=[.ptr Z.nx 0,x,o,I n.cells.length,I i]/\Made 1 5 (al (uv (if n.leaf=θ then 1 else 0)++uv n.cells.length++cY n.leaf (n.cells.take i))) Z x s/\s.m.g Z.nx=Φ (Ϙ [.bool n.leaf,o,p])/\Z.nx<s.nx) ?_ (n:=n.cells.length) ⟨0,x9,rfl,rfl,by simpa[cY]using m5,g5,by have:=WW.nx;omega⟩;rintro fu vs s k ⟨i,x,hi,rfl,G,gs,aa⟩ next;simp only[DJ,dd];have X:=G.kp;have ax:=X.fresh hf
 by_cases hc:i<n.cells.length
 .rw[jp hc,gq rfl];refine(h1.mono X).fj (L:=n.cells.map ba) J (gH _) EV _ ?_;have e:(n.cells.map ba)[i]'(by simpa using hc)=ba n.cells[i]:=by simp
  rw[e];refine gW rfl rfl (iu _) ?_;have CO:=H.cell _ (mp hc);have N:=pR (leaf:=n.leaf) (l:=n.cells.take i) λc h=>H.cell c (ww h);rw[pu]at N;have Mf:min i n.cells.length<=1000:=J
  have e2:cY n.leaf (n.cells.take (i+1))=cY n.leaf (n.cells.take i)++jz n.leaf n.cells[i]:=by
   rw[su hc,eQ];simp[cY]
  have P:∀r:δ Γ,r=jz n.leaf n.cells[i]->(uv (if n.leaf=θ then 1 else 0)++uv n.cells.length++cY n.leaf (n.cells.take i))++r=uv (if n.leaf=θ then 1 else 0)++uv n.cells.length++cY n.leaf (n.cells.take (i+1)):=λr hr=>by rw[hr,e2];simp
  generalize dG:uv (if n.leaf=θ then 1 else 0)++uv n.cells.length++cY n.leaf (n.cells.take i)=pre at*;have az:pre.length<=200000:=by rw[<-dG,km,km];omega
  generalize n.cells[i]=c at*;have w:Kp [] s (O.new s (Ϛ (ba c))):=(Δ _ s).new _;have W:(O.new s (Ϛ (ba c))).m.g s.nx=Φ (Ϛ [.str c.key,.str c.value,I c.dX,I c.size]):=ay _ _;have n3:(O.new s (Ϛ (ba c))).nx=s.nx+1:=rfl;generalize O.new s (Ϛ (ba c))=sa at*;have ad:=(w.keep Z.nx aa V).trans gs;simp only[ly,W,io];have BS:=CO.key;refine(AB ((G.keep w).sl [] V) J (s:=c.key) J).mono ?_;intro dC a mb;have kb:=mb.kp;have Et:=kb.nx;have Y:=(kb.keep Z.nx J V).trans ad;have gc:=(kb.keep s.nx J V).trans W;have u:Made 1 5 (al (pre++(uv c.key.length++c.key))) Z dC a:=mb.after (X.trans w V);have Va:(uv c.key.length).length=1:=eY J;simp only[Y,io,bZ,rb,ag];cases d:n.leaf with
  |false=>
   rw[ra,gq rfl,fV i J,af];rw[d]at P;refine next (fu-1) _ _ J ⟨i+1,dC,J,rfl,?_,by rw[Y,d],J⟩;rw[d,<-P _ rfl];have:jz false c=uv c.key.length++c.key:=by unfold jz;simp
   rw[this];exact u
  |true=>
   rw[r8,B tW];rw[d]at P CO;have ac:=u.kp.fresh hf;simp only[gc,lW,kc,io]
   by_cases Q:c.dX=0
   .obtain⟨lU,rA⟩:=CO.short rfl Q;have e5:R .eql ψ true (I c.dX) μ a=.ok ι a:=by rw[Q];rfl
    simp only[e5,xl,ix,aZ];have ab:(O.skip a).m.g a.nx=ν:=ac _ (hI _);have ak:gY [(0,1,μ)] (cr 1 [μ])=Φ [ζ 0]:=rfl;rw[fY ab ak,aP];have D:Kp [] a (O.set (O.skip a) a.nx (Ϝ [ζ 0])):=((Δ _ a).skip).set _ (.inr (hI _)) V;have gd:(O.set (O.skip a) a.nx (Ϝ [ζ 0])).m.g a.nx=Φ (Ϝ [ζ 0]):=ao ..;have nd:(O.set (O.skip a) a.nx (Ϝ [ζ 0])).nx=a.nx+1:=rfl;generalize O.set (O.skip a) a.nx (Ϝ [ζ 0])=sd at*;have z:Sl sd [] (.slice a.nx 0 1 1 0) 1 (cR [0]):=.inr ⟨a.nx,0,1,1,0,rfl,rfl,⟨hI _,.inl rfl⟩,.inr ⟨V,J,_,_,_,gd,V,rfl⟩⟩;refine(vF (u.keep D) z (by intro k M;simp at M;show k<=2147483647;omega) V (by rw[km,km];omega)).mono ?_;rintro fL se ⟨q,C⟩;have ai:fo [0]=uv 0:=ð
    rw[ai]at q;have jg:=C.nx;have S:=(D.keep s.nx J V).trans gc;have ge:=(C.keep s.nx J V).trans S;have y:=(C.keep Z.nx J V).trans ((D.keep Z.nx J V).trans Y);have av:(uv 0).length=1:=eY J;simp only[S,ge,lW,kc,io];refine(AB (q.sl [] V) (by rw[km,km,km];omega) (s:=c.value) J).mono ?_;intro iz sf mf;have kf:=mf.kp;have aw:=kf.nx;have ah:=(kf.keep Z.nx J V).trans y;simp only[fV i J,af,and_true,sE];refine next (fu-1) _ _ J ⟨i+1,iz,J,rfl,?_,by rw[ah,d],J⟩;rw[d,<-P _ rfl];have:jz true c=uv c.key.length++(c.key++(uv 0++(uv c.value.length++c.value))):=by unfold jz;simp[Q]
    rw[this];have:=mf.after q.kp
    simpa using this
   .obtain⟨lU,rA,Zf,PH⟩:=CO.far rfl Q;have e5:R .eql ψ true (I c.dX) μ a=.ok Θ a:=by rw[au,cn,jo J]
    simp only[e5,ll,ii];have NW:bB 3 2 (cr 2 [μ]) [(0,1,I c.dX),(1,1,I c.size)] a=.ok (.slice a.nx 0 2 2 0) (O.new a (Ϝ [I c.dX,I c.size])):=rfl;rw[NW,aP];have D:Kp [] a (O.new a (Ϝ [I c.dX,I c.size])):=(Δ _ a).new _;have gd:(O.new a (Ϝ [I c.dX,I c.size])).m.g a.nx=Φ (Ϝ [I c.dX,I c.size]):=ay _ _;have nd:(O.new a (Ϝ [I c.dX,I c.size])).nx=a.nx+1:=rfl;generalize O.new a (Ϝ [I c.dX,I c.size])=sd at*;have z:Sl sd [] (.slice a.nx 0 2 2 0) 1 (cR [c.dX,c.size]):=.inr ⟨a.nx,0,2,2,0,rfl,rfl,⟨hI _,.inl rfl⟩,.inr ⟨V,J,_,_,_,gd,V,rfl⟩⟩;refine(vF (u.keep D) z (by intro k M;simp at M;rcases M with rfl|rfl<;>assumption) V (by rw[km,km];omega)).mono ?_;rintro iR se ⟨q,C⟩;have jg:=C.nx;have y:=(C.keep Z.nx J V).trans ((D.keep Z.nx J V).trans Y);simp only[fV i J,af];refine next (fu-1) _ _ J ⟨i+1,iR,J,rfl,?_,by rw[y,d],J⟩;rw[d,<-P _ rfl];have:jz true c=uv c.key.length++(c.key++(uv c.dX++uv c.size)):=by unfold jz;simp[Q]
    rw[this];have e6:fo [c.dX,c.size]=uv c.dX++uv c.size:=ð
    rw[e6]at q
    simpa using q
 .rw[jo hc,B tW];have ht:n.cells.take i=n.cells:=lw J;rw[ht]at G;simp only[ly,gs,kc,io,ag];have N:=pR (leaf:=n.leaf) (l:=n.cells) H.cell;cases d:n.leaf with
  |true=>
   rw[gq rfl];rw[d]at G;unfold oo;rw[d]
   simpa using G
  |false=>
   rw[B tW];refine(vF G (h2.mono X) H.Ek (by have:=H.kids;omega) (by rw[km,km];omega)).mono ?_;rintro jD se ⟨q,_⟩;rw[d]at q;unfold oo;rw[d]
   simpa using q
def bp.ok.b (h:n.ok)(a:n.cells.length<=1000):EP n:=⟨h.cell,h.Ek,a,by have:=h.kR;rw[this];split<;>omega⟩
def Fh (u:dV Z)(h:IsNode Z [] v n)(l:n.ok)(r:n.cells.length<=1000):Rq0 214 [v] Z λx Z'=>x=I n.size/\Kp [] Z Z':=by
 have o:=h;obtain⟨c,a,rfl,C,z⟩:=h;refine bE ?_;rw[apt];rw[bz,aN];refine⟨rfl,?_⟩;have j:Kp [] Z (O.new Z (Ϙ [.bool n.leaf,c,a])):=(Δ [] Z).new _;have p:(O.new Z (Ϙ [.bool n.leaf,c,a])).m.g Z.nx=Φ (Ϙ [.bool n.leaf,c,a]):=ay _ _;have y:(O.new Z (Ϙ [.bool n.leaf,c,a])).nx=Z.nx+1:=rfl;generalize O.new Z (Ϙ [.bool n.leaf,c,a])=s1 at*;rw[aG (n:=3) p rfl,af];refine(Co (o.mono j) l J).mono ?_;rintro _ s2 ⟨rfl,i⟩;have d:=j.trans i V;have w:=(i.keep Z.nx J V).trans p;simp only[Gz,ll,ii];rw[aG (n:=3) w rfl,af];refine(yN (d.fresh u) (o.mono d) (l.b r)).mono ?_;intro x q f;have:=f.kp;rw[(f.sl [] V).len (oo n).length V J q,af];exact⟨rfl,d.trans f.kp V⟩
def P9 (r:dV Z)(h:IsNode Z [] v n)(o:n.ok)(l:n.size<=512):Rq0 251 [v] Z λy Z'=>∃x,y=.tuple [x,μ]/\Made 1 5 (al (oo n)) Z x Z':=by
 have p:=h;obtain⟨c,a,rfl,F,D⟩:=h
 have C:n.cells.length<=512:=by
  have:=fD n.leaf n.cells;rw[cq]at l;omega
 refine bE ?_;rw[aoT];rw[bz,aN];refine⟨rfl,?_⟩;have j:Kp [] Z (O.new Z (Ϙ [.bool n.leaf,c,a])):=(Δ [] Z).new _;have q:(O.new Z (Ϙ [.bool n.leaf,c,a])).m.g Z.nx=Φ (Ϙ [.bool n.leaf,c,a]):=ay _ _;have z:(O.new Z (Ϙ [.bool n.leaf,c,a])).nx=Z.nx+1:=rfl;generalize O.new Z (Ϙ [.bool n.leaf,c,a])=s1 at*;rw[aG (n:=3) q rfl,af];refine(Co (p.mono j) o J).mono ?_;rintro _ s2 ⟨rfl,i⟩;have d:=j.trans i V;have u:=(i.keep Z.nx J V).trans q;simp only[Gz,ll,ii];rw[aG (n:=3) u rfl,af];refine(yN (d.fresh r) (p.mono d) (o.b J)).mono ?_;intro x s3 f
 have w:R .gtr ν true (I (oo n).length) (I 512) s3=.ok Θ s3:=by
  rw[au,cQ,jo (by unfold bp.size at l;omega)]
 rw[(f.sl [] V).len (oo n).length V J s3];simp only[w,ll,ii];exact⟨x,rfl,f.after d⟩
end
end
section
variable {k:Nat}{z:δ K}{x v:K}{F:δ Nat}
section
variable {Z Z':O}
def pH (c:z.length=k)(a:x.bY.length=k)(b:x.isAny=φ):gY [(0,k,x)] (cr 1 z)=Φ x.bY:=by
 have:cr 1 z=z:=by simp[cr]
 rw[cW,gq ⟨⟨a,b⟩,by rw[this];omega⟩,this,mi];rw[db _ _ J]
def AM {s:O}{b:Nat}{e:Nat}(bytes:Nat){L:δ K}{a:K->O->K->O->Prop}(h:Own s v k e L F)(y:0<k)(j:∀q∈F,q<s.nx/\q≠b)(C:b<s.nx)(w:s.m.g b=ν)(u:z.length=k)(i:x.bY.length=k)(D:x.isAny=φ)(r:bh x.bY=θ)
 (c:(L.length+k)*(bytes+1)<=140737488355328) (G:∀v' s2 F',Own s2 v' k e (L++x.bY) F'->Kp (b::F) s s2->(∀q∈F',(q∈F\/s.nx<=q)/\q<s2.nx)->a (.slice b 0 1 1 0) (O.set s b (.cells x.bY e false)) v' s2):
 E (eM b e 1 (cr 1 z) [(0,k,x)] s) λf d=>E (bI e k bytes v (cZ .slice k z f d) d) λo P=>a f d o P:=by
 rw[fY w (pH u i D),aP];have p:Kp (b::F) s (O.set s b (.cells x.bY e false)):=(Δ _ s).set _ (.inl V) C;have H:Own (O.set s b (.cells x.bY e false)) v k e L F:=h.mono λq hq=>ar _ _ _ _ (j q hq).2;rw[wm (k:=k) (n:=1) (ao ..) J J];obtain⟨v',Z',F',N,M,I,l⟩:=H.append (n:=1) (bytes:=bytes) (T:=x.bY) y J r (λq hq=>(j q hq).1) (by rw[i];exact c);rw[N,aP];refine G v' Z' F' M (p.trans I λq hq=>.inl QU) λq hq=>⟨(l q hq).1.imp id λh=>?_,(l q hq).2⟩;have:(O.set s b (.cells x.bY e false)).nx=s.nx:=rfl;omega
def aaq (r:Nat)(F:δ Nat)(L:δ Γ)(Z Z':O):Prop:=Kp F Z Z'/\qw Z' r F L
def X7 {r:Nat}{L:δ Γ}{leaf:Bool}{c:dq}(h:qw Z r F (jz leaf c++L))(D:c.ok leaf)(hF:∀b∈F,b<Z.nx):Rq0 236 [.ptr r 0,.bool leaf] Z λx Z'=>x=.agg (ba c)/\aaq r F L Z Z':=by
 refine bE ?_;rw[apd];have k1:Kp F Z (O.new Z (Ϛ ϐ1)):=(Δ F Z).new _;have g1:(O.new Z (Ϛ ϐ1)).m.g Z.nx=Φ (Ϛ ϐ1):=ay _ _;have n1:(O.new Z (Ϛ ϐ1)).nx=Z.nx+1:=rfl;have r1:=h.keep ((Δ [] Z).new (Ϛ ϐ1)) V;rw[bW,aP];generalize O.new Z (Ϛ ϐ1)=s1 at*;have jg:∀b∈F,b≠Z.nx:=λb hb=>by have:=hF b hb;omega
 have d:Z.nx∉F:=λh=>jg _ h rfl;have e1:jz leaf c++L=uv c.key.length++(c.key++((if leaf=θ then (if c.dX=0 then uv 0++(uv c.value.length++c.value)else uv c.dX++uv c.size)else [])++L)):=by unfold jz;simp
 rw[e1]at r1;refine(Fu (m:=48) r1 D.key J).mono ?_;rintro _ s2 ⟨rfl,k2,n2,r2⟩;have ql:aR ϐ1 [(0,1,.str c.key)] s2=.ok (.agg [.str c.key,ϑ,μ,μ]) s2:=rfl;rw[ql,af];have g2:=(k2.keep Z.nx J d).trans g1;refine gW rfl rfl rfl ?_;have k3:Kp F s2 (O.new s2 (Ϛ [.str c.key,ϑ,μ,μ])):=(Δ F s2).new _;have g3:(O.new s2 (Ϛ [.str c.key,ϑ,μ,μ])).m.g s2.nx=Φ (Ϛ [.str c.key,ϑ,μ,μ]):=ay _ _;have n3:(O.new s2 (Ϛ [.str c.key,ϑ,μ,μ])).nx=s2.nx+1:=rfl;have e:=r2.keep ((Δ [] s2).new (Ϛ [.str c.key,ϑ,μ,μ])) V;have TH:(O.new s2 (Ϛ [.str c.key,ϑ,μ,μ])).m.g Z.nx=_:=(bo _ _ _ J).trans g2;generalize O.new s2 (Ϛ [.str c.key,ϑ,μ,μ])=s3 at*;have T:=(k1.trans k2 lk).trans k3 lk;have G:s2.nx∉F:=λh=>by have:=hF _ h;omega
 have u:∀(s:O),Kp F Z s->Z.nx<s.nx->s2.nx<s.nx->s.m.g Z.nx=Φ (Ϛ ϐ1)->s.m.g s2.nx=Φ (Ϛ (ba c))->qw s r F L->
  U (aF 4 (.ptr s2.nx 0) s) λx6=>E (aJ 4 (.ptr Z.nx 0) x6 s) λ_ s5=>U (aF 4 (.ptr Z.nx 0) s5) λx7=>x7=.agg (ba c)/\aaq r F L Z s5:=by
  intro s hk f w q1 q2 q3;rw[aG (n:=4) q2 rfl,af,aK,q1,aU,aN];have:bC ϐ1 0 (ba c)=ba c:=db _ _ rfl;rw[this];refine⟨⟨rfl,rfl,tW⟩,?_⟩;rw[aG (n:=4) (ao ..) rfl,af];exact⟨rfl,hk.set _ (.inr (hI _)) f,q3.keep (X:=[Z.nx]) ((Δ _ s).set _ (.inl V) f) acm⟩
 rw[bZ,af,ag];cases leaf with
 |false=>
  obtain⟨f,w,h3⟩:=D.inner rfl;rw[ra,gq rfl];simp only[pi,ii,ow]at e;refine u s3 T J J TH ?_ e;rw[g3];simp[ba,f,w,h3]
 |true=>
  rw[r8,B tW,bU];simp only[ix]at e
  by_cases C:c.dX=0
  .obtain⟨f,w⟩:=D.short rfl C;rw[gq C]at e;have e2:(uv 0++(uv c.value.length++c.value))++L=uv 0++(uv c.value.length++(c.value++L)):=by simp
   rw[e2]at e;refine(l6 (n:=0) (m:=2147483647) e J J).mono ?_;rintro _ a ⟨rfl,j,n8,P⟩;have g8:=(j.keep s2.nx J G).trans g3;have q:=(j.keep Z.nx J d).trans TH;have S:bC [.str c.key,ϑ,μ,μ] 2 [ζ 0]=[.str c.key,ϑ,μ,μ]:=rfl;simp only[fst,fl,ly,xz,g8,jR,S,ao,kc,io];refine⟨⟨rfl,rfl,V⟩,?_⟩;have W:Kp F Z (O.set a s2.nx (Ϛ [.str c.key,ϑ,μ,μ])):=(T.trans j lk).set _ (.inr J) J;have g9:(O.set a s2.nx (Ϛ [.str c.key,ϑ,μ,μ])).m.g s2.nx=Φ (Ϛ [.str c.key,ϑ,μ,μ]):=ao ..;have o:(O.set a s2.nx (Ϛ [.str c.key,ϑ,μ,μ])).m.g Z.nx=_:=(ar _ _ _ _ J).trans q;have n9:(O.set a s2.nx (Ϛ [.str c.key,ϑ,μ,μ])).nx=a.nx:=rfl;have N:=P.keep (X:=[s2.nx]) ((Δ [s2.nx] a).set (p:=s2.nx) (Ϛ [.str c.key,ϑ,μ,μ]) (.inl V) J) (λb hb=>aaz);generalize O.set a s2.nx (Ϛ [.str c.key,ϑ,μ,μ])=y at*;have e3:R .eql ψ true μ μ y=.ok ι y:=rfl;simp only[e3,xl,ix];refine(Fu (m:=64) N w J).mono ?_;rintro _ H ⟨rfl,i,na,M⟩;have Y:=(i.keep s2.nx J G).trans g9;have l:=(i.keep Z.nx J d).trans o;have Q:bC [.str c.key,ϑ,μ,μ] 1 [.str c.value]=[.str c.key,.str c.value,μ,μ]:=rfl;simp only[xz,Y,oa,HG,Q,ke];refine⟨⟨rfl,rfl,V⟩,?_⟩
   have Mm:=u _ ((W.trans i lk).set (p:=s2.nx) _ (.inr J) J) xI xI ((ar _ _ _ (Ϛ [.str c.key,.str c.value,μ,μ]) J).trans l) (by rw[ao];simp[ba,C,f]) (M.keep (X:=[s2.nx]) ((Δ _ H).set (p:=s2.nx) _ (.inl V) J) (λb hb=>aaz))
   simpa only[aK,oa]using Mm
  .obtain⟨f,w,h3,h4⟩:=D.far rfl C;rw[B C,we]at e;refine(l6 (n:=c.dX) (m:=2147483647) e w J).mono ?_;rintro _ a ⟨rfl,j,n8,P⟩;have g8:=(j.keep s2.nx J G).trans g3;have q:=(j.keep Z.nx J d).trans TH;have S:bC [.str c.key,ϑ,μ,μ] 2 [I c.dX]=[.str c.key,ϑ,I c.dX,μ]:=rfl;simp only[fst,fl,ly,xz,g8,jR,S,ao,kc,io];refine⟨⟨rfl,rfl,V⟩,?_⟩;have W:Kp F Z (O.set a s2.nx (Ϛ [.str c.key,ϑ,I c.dX,μ])):=(T.trans j lk).set _ (.inr J) J;have g9:(O.set a s2.nx (Ϛ [.str c.key,ϑ,I c.dX,μ])).m.g s2.nx=Φ (Ϛ [.str c.key,ϑ,I c.dX,μ]):=ao ..;have o:(O.set a s2.nx (Ϛ [.str c.key,ϑ,I c.dX,μ])).m.g Z.nx=_:=(ar _ _ _ _ J).trans q;have n9:(O.set a s2.nx (Ϛ [.str c.key,ϑ,I c.dX,μ])).nx=a.nx:=rfl;have N:=P.keep (X:=[s2.nx]) ((Δ [s2.nx] a).set (p:=s2.nx) (Ϛ [.str c.key,ϑ,I c.dX,μ]) (.inl V) J) (λb hb=>aaz);generalize O.set a s2.nx (Ϛ [.str c.key,ϑ,I c.dX,μ])=y at*;have e3:R .eql ψ true (I c.dX) μ y=.ok Θ y:=by rw[au,cn,jo J]
   simp only[e3,ll,ii];refine(l6 (n:=c.size) (m:=2147483647) N h4 J).mono ?_;rintro _ H ⟨rfl,i,na,M⟩;have Y:=(i.keep s2.nx J G).trans g9;have l:=(i.keep Z.nx J d).trans o;have Q:bC [.str c.key,ϑ,I c.dX,μ] 3 [I c.size]=[.str c.key,ϑ,I c.dX,I c.size]:=rfl;simp only[xz,Y,oa,jR,Q,ke];refine⟨⟨rfl,rfl,V⟩,?_⟩;have Mm:=u _ ((W.trans i lk).set (p:=s2.nx) _ (.inr J) J) xI xI ((ar _ _ _ (Ϛ [.str c.key,ϑ,I c.dX,I c.size]) J).trans l) (by rw[ao];simp[ba,f]) (M.keep (X:=[s2.nx]) ((Δ _ H).set (p:=s2.nx) _ (.inl V) J) (λb hb=>aaz))
   simpa only[aK,oa]using Mm
def bp.hasB (n:bp)(key:bS):Bool:=match n.cells[n.find key]? with|some c=>decide (c.key=key)|none=>false
def TM {n:bp}{key:bS}(h:IsNode Z [] v n)(hl:n.cells.length<=100000):Rq0 208 [v,.str key] Z λx Z'=>x=.tuple [I (n.find key),.bool (n.hasB key)]/\Kp [] Z Z':=by
 obtain⟨a,f,rfl,r,h2⟩:=h;refine bE ?_;rw[apz];rw[bz,aN];refine⟨rfl,?_⟩;have k1:Kp [] Z (O.new Z (Ϙ [.bool n.leaf,a,f])):=(Δ [] Z).new _;have g1:(O.new Z (Ϙ [.bool n.leaf,a,f])).m.g Z.nx=Φ (Ϙ [.bool n.leaf,a,f]):=ay _ _;have n1:(O.new Z (Ϙ [.bool n.leaf,a,f])).nx=Z.nx+1:=rfl;generalize O.new Z (Ϙ [.bool n.leaf,a,f])=s1 at*;rw[bz,HG];refine⟨rfl,?_⟩;have W:Kp [] s1 (O.new s1 (Í [.str key])):=(Δ [] s1).new _;have X:(O.new s1 (Í [.str key])).m.g s1.nx=Φ (Í [.str key]):=ay _ _;have n2:(O.new s1 (Í [.str key])).nx=s1.nx+1:=rfl;generalize O.new s1 (Í [.str key])=s2 at*;have T:=(W.keep Z.nx J V).trans g1;have u:=k1.trans W V;simp only[fl,ly,T,kc,io,ju]
 have M:Rq0 245 [a,.func (.func 246) [] [.ptr s1.nx 0]] s2 λx s=>x=(if n.find key<n.cells.length then I (n.find key)else I (-1))/\Kp [] s2 s:=by
  refine bE ?_;rw[aoY];have hlen:=(r.mono u).len n.cells.length (bN _) J s2;simp only[yB,hlen,af];refine bD (λfu P s=>∃i,fu+i=n.cells.length/\i<=n.find key/\P=[a,.func (.func 246) [] [.ptr s1.nx 0],I n.cells.length,I i]/\Kp [] s2 s) ?_ (n:=n.cells.length) ⟨0,rfl,sw _,rfl,Δ _ _⟩;rintro fu P s k ⟨i,hi,D,rfl,d⟩ next;simp only[DJ,dd]
  by_cases hc:i<n.cells.length
  .rw[jp hc,gq rfl];have N:=u.trans d V;refine(r.mono N).fj (L:=n.cells.map ba) J (gH _) EV _ ?_;have e:(n.cells.map ba)[i]'(by simpa using hc)=ba n.cells[i]:=by simp
   rw[e,dv];refine bE ?_;simp only[ow,ut];rw[aoX];rw[bz,aN];refine⟨rfl,?_⟩;have g4:(O.new s (Ϛ (ba n.cells[i]))).m.g s.nx=Φ (Ϛ [.str n.cells[i].key,.str n.cells[i].value,I n.cells[i].dX,I n.cells[i].size]):=ay _ _;have y:Kp [] s (O.new s (Ϛ (ba n.cells[i]))):=(Δ _ s).new _;have gk:=(y.keep s1.nx (by have:=d.nx;omega) V).trans ((d.keep s1.nx J V).trans X);generalize O.new s (Ϛ (ba n.cells[i]))=s4 at*;simp only[fl,ly,g4,gk,io,fG,xW,ag]
   by_cases o:lO key n.cells[i].key
   .rw[jp o,gq rfl]
    have Tj:n.find key<=i:=by
     rcases wl i (n.find key)with h|h
     .have:=List.not_of_lt_findIdx h;simp[o]at this
     .exact h
    have:n.find key=i:=J
    rw[this,gq hc];exact⟨rfl,d.trans y V⟩
   .rw[jo o,B tW,fV i J,af];refine next (fu-1) _ _ J ⟨i+1,J,?_,rfl,d.trans y V⟩;rcases aNy D with h|h
    .exfalso;have:=List.findIdx_getElem (p:=λc:dq=>decide (lO key c.key)) (xs:=n.cells) (w:=Vt);simp only[ws]at this;refine o ?_;have e3:n.cells[i]=n.cells[List.findIdx (λc:dq=>decide (lO key c.key)) n.cells]'(by rw[show List.findIdx (λc:dq=>decide (lO key c.key)) n.cells=n.find key from rfl,<-h];exact hc):=by congr 1
     rw[e3];exact this
    .exact h
  .rw[jo hc,B tW,B J];exact⟨rfl,d⟩
 refine M.mono ?_;rintro _ s3 ⟨rfl,C⟩;have j:=u.trans C V;have S:=(C.keep Z.nx J V).trans T;have Y:=(C.keep s1.nx J V).trans X;have aa:n.find key<=n.cells.length:=aNt
 by_cases q:n.find key<n.cells.length
 .rw[gq q];have H:R .lss ν true (I (n.find key)) μ s3=.ok Θ s3:=by rw[au,cU,jo J]
  obtain⟨b,p,l,t,g,q1,q2,q3,q4,q5⟩:=(r.mono j).cellAt (L:=n.cells.map ba) J (gH _) (i:=n.find key) (by simpa using q);have Q:=q5 0 (.str n.cells[n.find key].key) QV;rw[rc]at Q
  have G:n.hasB key=decide (n.cells[n.find key].key=key):=by
   unfold bp.hasB;rw[li q]
  simp only[H,ll,ii,aZ,ah,av,S,lW,rc,kc,io,q1,q2,Q,Y,fG,rK,G,sE,and_true];exact j
 .rw[B q];have H:R .lss ν true (I (-1)) μ s3=.ok ι s3:=rfl;have hlen:=(r.mono j).len n.cells.length (bN _) J s3;have e2:n.find key=n.cells.length:=by omega
  have G:n.hasB key=φ:=by
   unfold bp.hasB;rw[In J]
  simp only[H,rb,ag,ix,S,kc,io,hlen,G,e2];exact⟨gt,j⟩
end
end
