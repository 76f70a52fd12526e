import Derived.Test.YtomffjeofpafnaaGreatDoorTree
import Derived.Test.YtomffjeofpafnaaGreatDoorPagB
namespace Lim
open Go
noncomputable section
set_option linter.defProp false
set_option maxRecDepth 100000
section
variable {n:Nat}{X:List Nat}{v:CV}{k:Nat}{L:List (List CV)}{i:Nat}
def Ei (st:St)(x y:rU):St.set (St.new st x) st.nx y=St.new st y:=by
 simp only[St.set,St.new,St.mk.injEq,and_true];exact PT.ext λp=>by simp only[PT.eW];split<;>rfl
def mW {t:Nat}{z T:List CV}{s:St}{K:CV->St->Prop}(d:z.length=n)(b:T.length=n)(a:bh T=true)(c:K (.ptr s.nx 0) (St.new s (.cells T t false))):upon (dp t z s) λx s2=>upon (aQ n x (.agg T) s2) λ_ s3=>K x s3:=by
 rw[cz,aP,aH,au];have:bz z 0 T=T:=dU _ _ uM;rw[aS,aT,this,Ei];exact⟨⟨b,a,uM⟩,c⟩
def bg (c:dq):List CV:=[.str c.key,.str c.value,I c.dR,I c.size]
def bM (l:List dq):List CV:=(l.map bg).flatten
def cP (l:List Nat):List CV:=l.map λn:Nat=>I n
def fQ (l:List dq):∀x∈l.map bg,x.length=4:=by
 intro x a;obtain⟨c,_,rfl⟩:=aIk.1 a;rfl
def bQ (l:List dq):(bM l).length=l.length*4:=by unfold bM;rw[fg (fQ l)];simp
@[simp] def qM (l:List Nat):(cP l).length=l.length:=by simp[cP]
def iA (a b:List dq):bM (a++b)=bM a++bM b:=by simp[bM]
def nY (a b:List Nat):cP (a++b)=cP a++cP b:=by simp[cP]
def lL (l:List dq)(i:Nat)(h:i<=l.length):(bM l).take (i*4)=bM (l.take i):=by
 unfold bM;rw[ud (fQ l) i TK,aJI]
def lM (l:List dq)(i:Nat)(h:i<=l.length):(bM l).drop (i*4)=bM (l.drop i):=by
 unfold bM;rw[ue (fQ l) i TK,aJs]
def vF (l:List Nat)(i:Nat):(cP l).take i=cP (l.take i):=by unfold cP;rw[aJI]
def vG (l:List Nat)(i:Nat):(cP l).drop i=cP (l.drop i):=by unfold cP;rw[aJs]
@[simp] def gT (c:dq):bh (bg c)=true:=rfl
@[simp] def eV (l:List dq):bh (bM l)=true:=by
  induction l with
  |nil=>rfl
  |cons c l a=>
   have:bM (c::l)=bg c++bM l:=by simp[bM]
   rw[this,zm,a];rfl
@[simp] def jP (l:List Nat):bh (cP l)=true:=by
  induction l with
  |nil=>rfl
  |cons c l a=>show(cF (I c)&&bh (cP l))=true;rw[a];rfl
section
variable {st st':St}
def Sl.gU (f:Sl st X v k L.flatten)(c:0<k)(a:∀x∈L,x.length=k)(hi:i<L.length)(Q:CV->Prop)(j:Q (.agg L[i])):Lim.gU k k v (I i) st Q:=by
 have hlen:=fg a;rcases f with⟨rfl,h⟩|⟨b,off,len,cap,grow,rfl,q,p,d⟩
 .rw[h]at hlen;have:0<L.length*k:=Nat.mul_pos uM c;simp at hlen;omega
 .have:len=L.length:=aIT c (by rw[<-q,hlen]);subst this;rcases d with d|⟨_,_,l,t,g,o,r,m⟩
  .omega
  .unfold Lim.gU;rw[gp hi (.inr p.1)]
   have s:i*k+k<=L.length*k:=by
    calc i*k+k=(i+1)*k:=by rw[aIV,aJV]
     _<=L.length*k:=aIB k hi
   simp only[af,qv,o,ar,wL];refine⟨uM,?_⟩
   have e:(l.drop (off+i*k)).take k=L[i]:=by
    rw[<-th a i hi,<-m,aJF,aKz,aJc,aIC uM]
   rw[e];exact j
def Sl.cellAt (f:Sl st X v k L.flatten)(d:0<k)(a:∀x∈L,x.length=k)(hi:i<L.length):∃b p l t g,(∀s,cV k v (I i) s=.ok (.ptr b p) s)/\st.m.g b=some (.cells l t g)/\b<st.nx/\b∉X/\∀o x,L[i][o]?=some x->l[p+o]?=some x:=by
 have hlen:=fg a;rcases f with⟨rfl,h⟩|⟨b,off,len,cap,grow,rfl,z,y,e⟩
 .rw[h]at hlen;have:0<L.length*k:=Nat.mul_pos uM d;simp at hlen;omega
 .have:len=L.length:=aIT d (by rw[<-z,hlen]);subst this;rcases e with e|⟨w,u,l,t,g,r,A,q⟩
  .omega
  .refine⟨b,off+i*k,l,t,g,gp hi (.inr y.1),r,u,w,λo x c=>?_⟩
   have B:i*k+k<=L.length*k:=by
    calc i*k+k=(i+1)*k:=by rw[aIV,aJV]
     _<=L.length*k:=aIB k hi
   have j:o<k:=by
    obtain⟨h,_⟩:=aHW.1 c;rw[a _ (aIc hi)]at h;exact h
   rw[<-c,<-R7 a i hi o j,<-q,aJe,aHP uM,aJA]
   congr 1;omega
def IsNode (st:St)(X:List Nat)(v:CV)(n:bo):Prop:=∃b a,v=.agg [.bool n.leaf,b,a]/\Sl st X b 4 (bM n.cells)/\Sl st X a 1 (cP n.kids)
def IsNode.mono {n:bo}(h:IsNode st X v n)(a:Kp X st st'):IsNode st' X v n:=by
 obtain⟨c,b,f,e,d⟩:=h;exact⟨c,b,f,e.mono a,d.mono a⟩
def IsNode.eH {Y:List Nat}{n:bo}(h:IsNode st X v n)(a:∀q∈Y,q∈X\/st.nx<=q):IsNode st Y v n:=by
 obtain⟨c,b,f,e,d⟩:=h;exact⟨c,b,f,e.eH a,d.eH a⟩
def Bk {least:Nat}:R 186 [I n,I least] st λv st'=>v=.bool (decide (least<=n/\n<=rB))/\st'=st:=by
 refine bK ?_;rw[amp]
 by_cases b:least<=n
 .have a:(least:Int)<=n:=by omega
  have c:((n:Int)<=2147483647)↔n<=rB:=by show _↔n<=2147483647;omega
  simp[b,a,c]
 .have a:¬(least:Int)<=n:=by omega
  simp[b,a]
def Y4 {c:dq}{leaf:Bool}(h:c.ok leaf):R 183 [.agg (bg c),.bool leaf] st λv st'=>v=.bool true/\Kp [] st st':=by
 refine bK ?_;rw[ams];rw[bS,aT];refine⟨rfl,?_⟩;have f:Kp [] st (St.new st (.cells (bg c) 109 false)):=(Kp.refl [] st).new _;have b:(St.new st (.cells (bg c) 109 false)).m.g st.nx=some (.cells [.str c.key,.str c.value,I c.dR,I c.size] 109 false):=au _ _;generalize St.new st (.cells (bg c) 109 false)=s1 at*;have s:¬(48:Int)<c.key.length:=by have:=h.key;omega
 simp only[fl,ah,af,az,b,ar,aHN,aHG,aw,gQ,av,dh,s,aJm,ag,aHH,aHV,cR];cases leaf with
 |false=>
  obtain⟨a,d,j⟩:=h.inner rfl;rw[aHY,aHP rfl,aM (n:=4) b rfl,af];simp[dB,cE,bz,rq,mJ,Bq,iY,andThen,gY,a,d,j,f]
 |true=>
  rw[aIb,aHM xI]
  by_cases e:c.dR=0
  .obtain⟨a,d⟩:=h.short rfl e;have l:(c.value.length:Int)<=64:=by omega
   simp[e,a,b,iy,l,f]
  .obtain⟨a,d,j,o⟩:=h.far rfl e;have l:¬(c.dR:Int)=0:=by omega
   simp[a,b,iy,e];refine(Bk (n:=c.dR) (least:=1)).same ?_;have r:1<=c.dR:=uM
   have q:decide (1<=c.dR/\c.dR<=rB)=true:=aHQ ⟨r,d⟩;have p:decide (1<=c.size/\c.size<=rB)=true:=aHQ ⟨j,o⟩;simp only[q,b,af,aF,aIj,aG,ba,dI,az,ar,aHI,aHG,aw];refine(Bk (n:=c.size) (least:=1)).same ?_;simp only[p];exact⟨afp,f⟩
end
end
section
variable {st st':St}
def gJ (i:Nat)(h:i<=4000000000000000000)(s:St)(d:Option kK):aj .add d true (I i) (.int .i64 1) s=.ok (I ((i+1:Nat):Int)) s:=F7
def zX (i:Nat)(h:i<=4000000000000000000)(a:0<i)(s:St)(d:Option kK):aj .sub d true (I i) (.int .i64 1) s=.ok (I ((i-1:Nat):Int)) s:=Gd
def dD (i n:Nat)(s:St)(d:Option kK)(c:Bool):aj .lss d c (I i) (I n) s=.ok (.bool (decide (i<n))) s:=aaI
def UR {X:List Nat}{v:CV}{l:List Nat}(d:Sl st X v 1 (cP l))(m:l.length<=1000000)(f:∀k∈l,k<=rB):R 184 [v,.func (.func 185) [] []] st λx st'=>x=.bool false/\Kp [] st st':=by
 refine bK ?_;rw[amr]
 have b:R 202 [v,.func (.func 185) [] []] st λx st'=>x=.int .i64 (-1)/\Kp [] st st':=by
  refine bK ?_;rw[amh];have hlen:=d.len l.length wb uM st;simp only[cM,aK,aL,hlen,af];refine bG (λfu c s=>∃i,fu+i=l.length/\c=[v,.func (.func 185) [] [],I l.length,I i]/\Kp [] st s) ?_ (n:=l.length) ⟨0,rfl,rfl,Kp.refl _ _⟩;rintro fu c s k ⟨i,hi,rfl,a⟩ next;simp only[aK,aL,dD,af,ag]
  by_cases hc:i<l.length
  .rw[aHQ hc,aHP rfl];have j:=(d.eH (Y:=[]) wb).mono a;refine j.idx (i:=i) I2 _ ?_;have e:(cP l)[i]'(by simpa using hc)=I l[i]:=by simp[cP]
   rw[e,dM];simp only[aIm,aIJ];refine bK ?_;rw[amq];refine(Bk (n:=l[i]) (least:=0)).same ?_;have g:decide (0<=l[i]/\l[i]<=rB)=true:=aHQ ⟨uM,f _ (aIc hc)⟩;simp only[g,cR,af,aIb,ag,aHH,aHV,gJ i uM];exact next (fu-1) _ _ uM ⟨i+1,uM,rfl,a⟩
  .rw[aHL hc,aHM xI];exact⟨afp,a⟩
 refine b.mono ?_;rintro _ s ⟨rfl,h⟩;simp[h]
def Bp {v:CV}{n:bo}(h:IsNode st [] v n)(q:n.ok)(hl:n.cells.length<=100000):R 145 [v] st λx st'=>x=.bool true/\Kp [] st st':=by
 obtain⟨c,a,rfl,u,N⟩:=h;refine bK ?_;rw[amV];rw[bS,aT];refine⟨rfl,?_⟩;have y:Kp [] st (St.new st (.cells [.bool n.leaf,c,a] 105 false)):=(Kp.refl [] st).new _;have D:(St.new st (.cells [.bool n.leaf,c,a] 105 false)).m.g st.nx=some (.cells [.bool n.leaf,c,a] 105 false):=au _ _;have n1:(St.new st (.cells [.bool n.leaf,c,a] 105 false)).nx=st.nx+1:=rfl;generalize St.new st (.cells [.bool n.leaf,c,a] 105 false)=s1 at*;have hlen:=(u.mono y).len n.cells.length (bQ _) uM s1;simp only[cM,aK,aL,fl,ah,af,az,D,ar,aHN,aHI,aHG,aw,hlen];refine bG (λfu G s=>∃i,fu+i=n.cells.length/\G=[.ptr st.nx 0,c,I n.cells.length,I i]/\Kp [] s1 s) ?_ (n:=n.cells.length) ⟨0,rfl,rfl,Kp.refl _ _⟩;rintro fu G s k ⟨i,hi,rfl,r⟩ next;have C:=(r.keep st.nx uM wb).trans D;have d:=y.trans r wb;simp only[aK,aL,dD,af,ag]
 by_cases hc:i<n.cells.length
 .rw[aHQ hc,aHP rfl];refine(u.mono d).gU (L:=n.cells.map bg) uM (fQ _) I2 _ ?_;have e:(n.cells.map bg)[i]'(by simpa using hc)=bg n.cells[i]:=by simp
  rw[e];refine mW rfl rfl (gT _) ?_;have M:Kp [] s (St.new s (.cells (bg n.cells[i]) 109 false)):=(Kp.refl _ s).new _;have P:(St.new s (.cells (bg n.cells[i]) 109 false)).m.g s.nx=some (.cells [.str n.cells[i].key,.str n.cells[i].value,I n.cells[i].dR,I n.cells[i].size] 109 false):=au _ _;have n3:(St.new s (.cells (bg n.cells[i]) 109 false)).nx=s.nx+1:=rfl;generalize St.new s (.cells (bg n.cells[i]) 109 false)=s3 at*;have B:=(M.keep st.nx (by have:=d.nx;have:=r.nx;omega) wb).trans C;rw[bD,aM (n:=4) P rfl];simp only[af,ah,az,B,ar,aHN,aHG,aw];refine(Y4 (q.cell _ (aIc hc))).mono ?_;rintro _ H ⟨rfl,K⟩;have w:=(r.trans M wb).trans K wb;have E:=y.trans w wb;have RU:=(K.keep s.nx uM wb).trans P;have g6:=(w.keep st.nx uM wb).trans D;have e1:aj .gtr none true (I i) (.int .i64 0) H=.ok (.bool (decide (0<i))) H:=BT
  simp only[cR,af,aIb,aG,aHH,aHV,aHY,ba,e1]
  by_cases A:0<i
  .rw[aHQ A];obtain⟨b,p,cl,ct,cg,U,T,_,_,S⟩:=((u.mono E)).cellAt (L:=n.cells.map bg) uM (fQ _) (i:=i-1) zS;have J:=S 0 (.str n.cells[i-1].key) acm;rw[aIv]at J;simp only[aIj,ba,ah,af,az,g6,ar,aIv,aHI,aHG,aw,zX i uM A,U,T,J];have z:dO n.cells[i-1].key n.cells[i].key:=aKl.1 q.sorted _ _ _ _ uM;have e9:¬lj n.cells[i].key n.cells[i-1].key:=λh=>h z;simp only[RU,ar,aHG,aw,ep,wC,e9,aJm,af,aF,aIj,aHH,aHV,ag,gJ i uM];refine⟨⟨afp,afp,afp,afp,afp,afp⟩,afp,?_⟩;exact next (fu-1) _ _ uM ⟨i+1,uM,rfl,w⟩
  .rw[aHL A];simp only[aHH,aHV,aIj,bU,af,aF,ag,gJ i uM];refine⟨⟨afp,afp,afp,afp,afp,afp⟩,afp,?_⟩;exact next (fu-1) _ _ uM ⟨i+1,uM,rfl,w⟩
 .rw[aHL hc,aHM xI];have F:=(u.mono d).len n.cells.length (bQ _) uM s;have Re:=(N.mono d).len n.kids.length wb uM s;have j:=q.jR;simp only[ah,af,az,C,ar,aHN,aHI,aHG,aw,F,gJ n.cells.length uM,ag];have Q:n.kids.length<=1000000:=by rw[j];split<;>omega
  have l:∀m:Nat,n.kids.length=m->
   us (bt .slice a s) (λj9=>us (aj BinOp.eql (some kK.int) false j9 (CV.int IntKind.i64 m) s) λo=>
    iy (ao true o) 2 (CV.ptr st.nx 0) s λZ=>gK (ao true o) s (λk=>R 184 [Z,CV.func (Fn.func 185) [] []] s k) λW f=>us (br (ao true o) f (mi UnOp.not W f)) λX=>us (bk o X (CV.bool false) f) λV=>V=CV.bool true/\Kp [] st f):=by
   intro m hm;have e5:aj .eql (some .int) false (I n.kids.length) (.int .i64 m) s=.ok (.bool true) s:=by rw[av,cC,aHQ uM]
   simp only[Re,af,e5,aG,aIj,iy,ba,dI,ah,az,C,ar,aHN,aHI,aHG,aw];refine(UR (N.mono d) Q q.Dl).mono ?_;rintro _ f ⟨rfl,Y⟩;simp only[cR,af,aF,aIj,aHY];exact⟨afp,d.trans Y wb⟩
  cases O:n.leaf with
  |true=>rw[aHP rfl];rw[O,aHP rfl]at j;exact l 0 j
  |false=>rw[aHM xI];rw[O,aHM xI]at j;exact l _ j
end
section
variable {k e:Nat}{L:List CV}{s0 s s':St}{x v:CV}{n:bo}
section
variable {st st':St}
def Made.after (h:Kp [] s0 s)(m:Made k e L s x s'):Made k e L s0 x s':=by
 obtain⟨F,f,d,c⟩:=m;exact⟨F,h.trans f wb,d,λb a=>⟨by have:=(c b a).1;have:=h.nx;omega,(c b a).2⟩⟩
def Made.kp (m:Made k e L s0 x s):Kp [] s0 s:=by obtain⟨F,a,_⟩:=m;exact a
def Made.keep (m:Made k e L s0 x s)(h:Kp [] s s'):Made k e L s0 x s':=by
 obtain⟨F,f,d,c⟩:=m;exact⟨F,f.trans h wb,d.keep h λb a=>⟨(c b a).2,wb⟩,λb a=>⟨(c b a).1,by have:=(c b a).2;have:=h.nx;omega⟩⟩
def ui {l:CV}{b:List UInt8}{ks:List Nat}(q:Made 1 5 (ai b) s0 v st)(g:Sl st [] l 1 (cP ks))(j:∀k∈ks,k<=rB)(u:ks.length<=10000)(w:b.length<=800000):R 187 [v,l] st λx st'=>Made 1 5 (ai (b++eS ks)) s0 x st'/\Kp [] st st':=by
 refine bK ?_;rw[amo];have hlen:=g.len ks.length wb uM st;simp only[cM,aK,aL,hlen,af];refine bG (λfu f s=>∃i x,fu+i=ks.length/\f=[x,l,I ks.length,I i]/\Made 1 5 (ai (b++eS (ks.take i))) s0 x s/\Kp [] st s) ?_ (n:=ks.length) ⟨0,v,rfl,rfl,by simpa[eS]using q,Kp.refl _ _⟩;rintro fu f s k ⟨i,x,hi,rfl,a,c⟩ next;simp only[aK,aL,dD,af,ag]
 by_cases hc:i<ks.length
 .rw[aHQ hc,aHP rfl];refine(g.mono c).idx (i:=i) I2 _ ?_;have e:(cP ks)[i]'(by simpa using hc)=I ks[i]:=by simp[cP]
  rw[e];have d:=j _ (aIc hc);have p:=qN (l:=ks.take i) λk h=>j k (aIw h);rw[aHZ]at p;have y:min i ks.length<=10000:=uM
  refine(tn (a.sl [] wb) (n:=ks[i]) aeU d).mono ?_;intro o s' m;simp only[gJ i uM,af];refine next (fu-1) _ _ uM ⟨i+1,o,uM,rfl,?_,c.trans m.kp wb⟩
  have r:b++eS (ks.take (i+1))=b++eS (ks.take i)++uv ks[i]:=by
   rw[aIa hc,jg];simp[eS]
  rw[r];exact m.after a.kp
 .rw[aHL hc,aHM xI];have:ks.take i=ks:=aHS uM;rw[this]at a;exact⟨a,c⟩
structure DN (n:bo):Prop where
 cell:∀c∈n.cells,c.ok n.leaf
 Dl:∀k∈n.kids,k<=rB
 cells:n.cells.length<=1000
 kids:n.kids.length<=1001
def xt (X:eA st)(h:IsNode st [] v n)(C:DN n):R 146 [v] st (Made 1 5 (ai (mV n)) st):=by
 obtain⟨o,p,rfl,Y,h2⟩:=h;refine bK ?_;rw[amU];rw[bS,aT];refine⟨rfl,?_⟩;have k1:Kp [] st (St.new st (.cells [.bool n.leaf,o,p] 105 false)):=(Kp.refl [] st).new _;have g1:(St.new st (.cells [.bool n.leaf,o,p] 105 false)).m.g st.nx=some (.cells [.bool n.leaf,o,p] 105 false):=au _ _;have n1:(St.new st (.cells [.bool n.leaf,o,p] 105 false)).nx=st.nx+1:=rfl;have f1:eA (St.new st (.cells [.bool n.leaf,o,p] 105 false)):=X.new _;generalize St.new st (.cells [.bool n.leaf,o,p] 105 false)=s1 at*;have k2:=(Kp.refl [] s1).skip;have jD:(St.skip s1).m.g s1.nx=none:=f1 _ (aHK _);have g2:(St.skip s1).m.g st.nx=some (.cells [.bool n.leaf,o,p] 105 false):=g1;have n2:(St.skip s1).nx=s1.nx+1:=rfl;have f2:=f1.skip;rw[bD];generalize St.skip s1=s2 at*;simp only[ah,af,az,g2,ar,aHN,aHI,aHG,aw];have Kt:Sl s2 [] .ae 1 (ai []):=.inl ⟨rfl,rfl⟩;refine(R8 (f:=n.leaf) Kt wb).mono ?_;intro x4 j T;rw[aIm]at T;have w:=T.kp;have n3:=w.nx;have M:=(w.keep st.nx uM wb).trans g2;have Z2:=(w.keep s1.nx uM wb).trans jD;have Kx:=((k1.trans k2 wb).trans w wb);have hlen:=(Y.mono Kx).len n.cells.length (bQ _) uM j;simp only[M,ar,aHI,aHG,aw,hlen,af];have A8:gC [(0,1,I n.cells.length)] (cH 1 [(.int .i64 0)])=some [I n.cells.length]:=rfl;rw[jO Z2 A8,aP];have k4:Kp [s1.nx] j (St.set j s1.nx (.cells [I n.cells.length] 3 false)):=(Kp.refl _ j).set _ (.inl wb) uM;have g4:(St.set j s1.nx (.cells [I n.cells.length] 3 false)).m.g s1.nx=some (.cells [I n.cells.length] 3 false):=an _ _ _;have n4:(St.set j s1.nx (.cells [I n.cells.length] 3 false)).nx=j.nx:=rfl;have K:(St.set j s1.nx (.cells [I n.cells.length] 3 false)).m.g st.nx=some (.cells [.bool n.leaf,o,p] 105 false):=(ak _ _ _ _ uM).trans M;have Vx:Kp [] st (St.set j s1.nx (.cells [I n.cells.length] 3 false)):=Kx.set _ (.inr uM) uM
 have m4:Made 1 5 (ai (uv (if n.leaf=true then 1 else 0))) st x4 (St.set j s1.nx (.cells [I n.cells.length] 3 false)):=by
  obtain⟨F,a1,a2,a3⟩:=T;exact⟨F,Vx,a2.mono λb hb=>ak _ _ _ _ acH,λb hb=>⟨acH,(a3 b hb).2⟩⟩
 generalize St.set j s1.nx (.cells [I n.cells.length] 3 false)=s4 at*;have al:Sl s4 [] (.slice s1.nx 0 1 1 0) 1 (cP [n.cells.length]):=.inr ⟨s1.nx,0,1,1,0,rfl,rfl,⟨aHK _,.inl rfl⟩,.inr ⟨wb,uM,_,_,_,g4,wb,rfl⟩⟩;have qR:=C.cells;have am:(uv (if n.leaf=true then 1 else 0)).length=1:=eR acs;refine(ui m4 al (by intro k D;simp at D;show k<=2147483647;omega) wb uM).mono ?_;rintro x9 s5 ⟨S,UY⟩;have ac:eS [n.cells.length]=uv n.cells.length:=adJ
 rw[ac]at S;have k5:=S.kp;have g5:=(UY.keep st.nx uM wb).trans K;have Rg:=(Y.mono k5).len n.cells.length (bQ _) uM s5;have Zz:(uv n.cells.length).length<=2:=re uM;simp only[jD,ar,aw,aHI,aHG,aKc,cM,aK,aL,fl,ah,af,az,aHN,g5,K,Rg];refine bG (λfu vs s=>∃i x,fu+i=n.cells.length/\vs=[.ptr st.nx 0,x,o,I n.cells.length,I i]/\Made 1 5 (ai (uv (if n.leaf=true then 1 else 0)++uv n.cells.length++cW n.leaf (n.cells.take i))) st x s/\s.m.g st.nx=some (.cells [.bool n.leaf,o,p] 105 false)/\st.nx<s.nx) ?_ (n:=n.cells.length) ⟨0,x9,rfl,rfl,by simpa[cW]using S,g5,by have:=UY.nx;omega⟩;rintro fu vs s k ⟨i,x,hi,rfl,B,gs,V⟩ next;simp only[aK,aL,dD,af,ag];have N:=B.kp;have Rm:=N.fresh X
 by_cases hc:i<n.cells.length
 .rw[aHQ hc,aHP rfl];refine(Y.mono N).gU (L:=n.cells.map bg) uM (fQ _) I2 _ ?_;have e:(n.cells.map bg)[i]'(by simpa using hc)=bg n.cells[i]:=by simp
  rw[e];refine mW rfl rfl (gT _) ?_;have P:=C.cell _ (aIc hc);have E:=ow (leaf:=n.leaf) (l:=n.cells.take i) λc h=>C.cell c (aIw h);rw[aHZ]at E;have Ku:min i n.cells.length<=1000:=uM
  have e2:cW n.leaf (n.cells.take (i+1))=cW n.leaf (n.cells.take i)++iM n.leaf n.cells[i]:=by
   rw[aIa hc,eC];simp[cW]
  have G:∀r:List UInt8,r=iM n.leaf n.cells[i]->(uv (if n.leaf=true then 1 else 0)++uv n.cells.length++cW n.leaf (n.cells.take i))++r=uv (if n.leaf=true then 1 else 0)++uv n.cells.length++cW n.leaf (n.cells.take (i+1)):=λr hr=>by rw[hr,e2];simp
  generalize dz:uv (if n.leaf=true then 1 else 0)++uv n.cells.length++cW n.leaf (n.cells.take i)=pre at*;have aq:pre.length<=200000:=by rw[<-dz,aHR,aHR];omega
  generalize n.cells[i]=c at*;have w:Kp [] s (St.new s (.cells (bg c) 109 false)):=(Kp.refl _ s).new _;have M:(St.new s (.cells (bg c) 109 false)).m.g s.nx=some (.cells [.str c.key,.str c.value,I c.dR,I c.size] 109 false):=au _ _;have n3:(St.new s (.cells (bg c) 109 false)).nx=s.nx+1:=rfl;generalize St.new s (.cells (bg c) 109 false)=sa at*;have Z:=(w.keep st.nx V wb).trans gs;simp only[ah,af,az,M,ar,aHN,aHG,aw];have yT:=P.key;refine(D8 ((B.keep w).sl [] wb) uM (s:=c.key) uM).mono ?_;intro eh a mb;have U:=mb.kp;have HH:=U.nx;have O:=(U.keep st.nx uM wb).trans Z;have gc:=(U.keep s.nx uM wb).trans M;have u:Made 1 5 (ai (pre++(uv c.key.length++c.key))) st eh a:=mb.after (N.trans w wb);have Tn:(uv c.key.length).length=1:=eR uM;simp only[O,ar,aw,aHG,cR,af,ag];cases d:n.leaf with
  |false=>
   rw[aHY,aHP rfl,gJ i uM,af];rw[d]at G;refine next (fu-1) _ _ uM ⟨i+1,eh,uM,rfl,?_,by rw[O,d],uM⟩;rw[d,<-G _ rfl];have:iM false c=uv c.key.length++c.key:=by unfold iM;simp
   rw[this];exact u
  |true=>
   rw[aIb,aHM xI];rw[d]at G P;have W:=u.kp.fresh X;simp only[gc,ar,aw,aHI,aHG]
   by_cases H:c.dR=0
   .obtain⟨HA,zo⟩:=P.short rfl H;have e5:aj .eql (some .int) true (I c.dR) (.int .i64 0) a=.ok (.bool true) a:=by rw[H];rfl
    simp only[e5,af,ag,aIj,bD];have Vl:(St.skip a).m.g a.nx=none:=W _ (aHK _);have ad:gC [(0,1,(.int .i64 0))] (cH 1 [(.int .i64 0)])=some [I ((0:Nat):Int)]:=rfl;rw[jO Vl ad,aP];have A:Kp [] a (St.set (St.skip a) a.nx (.cells [I ((0:Nat):Int)] 3 false)):=((Kp.refl _ a).skip).set _ (.inr (aHK _)) wb;have gd:(St.set (St.skip a) a.nx (.cells [I ((0:Nat):Int)] 3 false)).m.g a.nx=some (.cells [I ((0:Nat):Int)] 3 false):=an _ _ _;have nd:(St.set (St.skip a) a.nx (.cells [I ((0:Nat):Int)] 3 false)).nx=a.nx+1:=rfl;generalize St.set (St.skip a) a.nx (.cells [I ((0:Nat):Int)] 3 false)=Q at*;have ZI:Sl Q [] (.slice a.nx 0 1 1 0) 1 (cP [0]):=.inr ⟨a.nx,0,1,1,0,rfl,rfl,⟨aHK _,.inl rfl⟩,.inr ⟨wb,uM,_,_,_,gd,wb,rfl⟩⟩;refine(ui (u.keep A) ZI (by intro k D;simp at D;show k<=2147483647;omega) wb (by rw[aHR,aHR];omega)).mono ?_;rintro fS se ⟨q,z⟩;have ab:eS [0]=uv 0:=adJ
    rw[ab]at q;have gV:=z.nx;have J:=(A.keep s.nx uM wb).trans gc;have ge:=(z.keep s.nx uM wb).trans J;have y:=(z.keep st.nx uM wb).trans ((A.keep st.nx uM wb).trans O);have ZA:(uv 0).length=1:=eR uM;simp only[J,ge,ar,aHI,aHG,aw];refine(D8 (q.sl [] wb) (by rw[aHR,aHR,aHR];omega) (s:=c.value) uM).mono ?_;intro ie sf mf;have kf:=mf.kp;have ap:=kf.nx;have aa:=(kf.keep st.nx uM wb).trans y;simp only[gJ i uM,af,and_true,aKc];refine next (fu-1) _ _ uM ⟨i+1,ie,uM,rfl,?_,by rw[aa,d],uM⟩;rw[d,<-G _ rfl];have:iM true c=uv c.key.length++(c.key++(uv 0++(uv c.value.length++c.value))):=by unfold iM;simp[H]
    rw[this];have:=mf.after q.kp
    simpa using this
   .obtain⟨HA,zo,To,ao⟩:=P.far rfl H;have e5:aj .eql (some .int) true (I c.dR) (.int .i64 0) a=.ok (.bool false) a:=by rw[av,cC,aHL uM]
    simp only[e5,af,ag,aHH,aHV];have OW:bC 3 2 (cH 2 [(.int .i64 0)]) [(0,1,I c.dR),(1,1,I c.size)] a=.ok (.slice a.nx 0 2 2 0) (St.new a (.cells [I c.dR,I c.size] 3 false)):=rfl;rw[OW,aP];have A:Kp [] a (St.new a (.cells [I c.dR,I c.size] 3 false)):=(Kp.refl _ a).new _;have gd:(St.new a (.cells [I c.dR,I c.size] 3 false)).m.g a.nx=some (.cells [I c.dR,I c.size] 3 false):=au _ _;have nd:(St.new a (.cells [I c.dR,I c.size] 3 false)).nx=a.nx+1:=rfl;generalize St.new a (.cells [I c.dR,I c.size] 3 false)=Q at*;have ZI:Sl Q [] (.slice a.nx 0 2 2 0) 1 (cP [c.dR,c.size]):=.inr ⟨a.nx,0,2,2,0,rfl,rfl,⟨aHK _,.inl rfl⟩,.inr ⟨wb,uM,_,_,_,gd,wb,rfl⟩⟩;refine(ui (u.keep A) ZI (by intro k D;simp at D;rcases D with rfl|rfl<;>assumption) wb (by rw[aHR,aHR];omega)).mono ?_;rintro kx se ⟨q,z⟩;have gV:=z.nx;have y:=(z.keep st.nx uM wb).trans ((A.keep st.nx uM wb).trans O);simp only[gJ i uM,af];refine next (fu-1) _ _ uM ⟨i+1,kx,uM,rfl,?_,by rw[y,d],uM⟩;rw[d,<-G _ rfl];have:iM true c=uv c.key.length++(c.key++(uv c.dR++uv c.size)):=by unfold iM;simp[H]
    rw[this];have e6:eS [c.dR,c.size]=uv c.dR++uv c.size:=adJ
    rw[e6]at q
    simpa using q
 .rw[aHL hc,aHM xI];have ht:n.cells.take i=n.cells:=aHS uM;rw[ht]at B;simp only[ah,af,az,gs,ar,aHN,aHI,aHG,aw,ag];have E:=ow (leaf:=n.leaf) (l:=n.cells) C.cell;cases d:n.leaf with
  |true=>
   rw[aHP rfl];rw[d]at B;unfold mV;rw[d]
   simpa using B
  |false=>
   rw[aHM xI];refine(ui B (h2.mono N) C.Dl (by have:=C.kids;omega) (by rw[aHR,aHR];omega)).mono ?_;rintro jF se ⟨q,_⟩;rw[d]at q;unfold mV;rw[d]
   simpa using q
def bo.ok.b (h:n.ok)(a:n.cells.length<=1000):DN n:=⟨h.cell,h.Dl,a,by have:=h.jR;rw[this];split<;>omega⟩
def Ef (u:eA st)(h:IsNode st [] v n)(l:n.ok)(r:n.cells.length<=1000):R 105 [v] st λx st'=>x=I n.size/\Kp [] st st':=by
 have o:=h;obtain⟨c,a,rfl,A,z⟩:=h;refine bK ?_;rw[anF];rw[bS,aT];refine⟨rfl,?_⟩;have j:Kp [] st (St.new st (.cells [.bool n.leaf,c,a] 105 false)):=(Kp.refl [] st).new _;have p:(St.new st (.cells [.bool n.leaf,c,a] 105 false)).m.g st.nx=some (.cells [.bool n.leaf,c,a] 105 false):=au _ _;have y:(St.new st (.cells [.bool n.leaf,c,a] 105 false)).nx=st.nx+1:=rfl;generalize St.new st (.cells [.bool n.leaf,c,a] 105 false)=s1 at*;rw[aM (n:=3) p rfl,af];refine(Bp (o.mono j) l uM).mono ?_;rintro _ s2 ⟨rfl,i⟩;have d:=j.trans i wb;have w:=(i.keep st.nx uM wb).trans p;simp only[cR,af,aIb,ag,aHH,aHV];rw[aM (n:=3) w rfl,af];refine(xt (d.fresh u) (o.mono d) (l.b r)).mono ?_;intro x q f;have:=f.kp;rw[(f.sl [] wb).len (mV n).length wb uM q,af];exact⟨rfl,d.trans f.kp wb⟩
def Oq (r:eA st)(h:IsNode st [] v n)(o:n.ok)(l:n.size<=512):R 142 [v] st λy st'=>∃x,y=.tuple [x,I 0]/\Made 1 5 (ai (mV n)) st x st':=by
 have p:=h;obtain⟨c,a,rfl,C,B⟩:=h
 have A:n.cells.length<=512:=by
  have:=eZ n.leaf n.cells;rw[cr]at l;omega
 refine bK ?_;rw[amW];rw[bS,aT];refine⟨rfl,?_⟩;have j:Kp [] st (St.new st (.cells [.bool n.leaf,c,a] 105 false)):=(Kp.refl [] st).new _;have q:(St.new st (.cells [.bool n.leaf,c,a] 105 false)).m.g st.nx=some (.cells [.bool n.leaf,c,a] 105 false):=au _ _;have z:(St.new st (.cells [.bool n.leaf,c,a] 105 false)).nx=st.nx+1:=rfl;generalize St.new st (.cells [.bool n.leaf,c,a] 105 false)=s1 at*;rw[aM (n:=3) q rfl,af];refine(Bp (p.mono j) o uM).mono ?_;rintro _ s2 ⟨rfl,i⟩;have d:=j.trans i wb;have u:=(i.keep st.nx uM wb).trans q;simp only[cR,af,aIb,ag,aHH,aHV];rw[aM (n:=3) u rfl,af];refine(xt (d.fresh r) (p.mono d) (o.b uM)).mono ?_;intro x s3 f
 have w:aj .gtr none true (I (mV n).length) (.int .i64 512) s3=.ok (.bool false) s3:=by
  rw[av,dh,aHL (by unfold bo.size at l;omega)]
 rw[(f.sl [] wb).len (mV n).length wb uM s3];simp only[af,w,ag,aHH,aHV];exact⟨x,rfl,f.after d⟩
end
end
section
variable {k:Nat}{z:List CV}{x v:CV}{F:List Nat}
section
variable {st st':St}
def Ft (c:z.length=k)(a:x.cK.length=k)(b:x.isAny=false):gC [(0,k,x)] (cH 1 z)=some x.cK:=by
 have:cH 1 z=z:=by simp[cH]
 rw[cE,aHP ⟨⟨a,b⟩,by rw[this];omega⟩,this,lJ];rw[dU _ _ uM]
def xv {s:St}{b:Nat}{e:Nat}(bytes:Nat){L:List CV}{K:CV->St->CV->St->Prop}(h:Own s v k e L F)(w:0<k)(i:∀q∈F,q<s.nx/\q≠b)(y:b<s.nx)(u:s.m.g b=none)(r:z.length=k)(f:x.cK.length=k)(A:x.isAny=false)(p:bh x.cK=true)
 (a:(L.length+k)*(bytes+1)<=140737488355328) (B:∀v' s2 F',Own s2 v' k e (L++x.cK) F'->Kp (b::F) s s2->(∀q∈F',(q∈F\/s.nx<=q)/\q<s2.nx)->K (.slice b 0 1 1 0) (St.set s b (.cells x.cK e false)) v' s2):
 upon (fE b e 1 (cH 1 z) [(0,k,x)] s) λd c=>upon (bJ e k bytes v (cT .slice k z d c) c) λl D=>K d c l D:=by
 rw[jO u (Ft r f A),aP];have o:Kp (b::F) s (St.set s b (.cells x.cK e false)):=(Kp.refl _ s).set _ (.inl wb) y;have C:Own (St.set s b (.cells x.cK e false)) v k e L F:=h.mono λq hq=>ak _ _ _ _ (i q hq).2;rw[GZ (k:=k) (n:=1) (an _ _ _) uM uM];obtain⟨v',st',F',H,G,E,j⟩:=C.append (n:=1) (bytes:=bytes) (T:=x.cK) w uM p (λq hq=>(i q hq).1) (by rw[f];exact a);rw[H,aP];refine B v' st' F' G (o.trans E λq hq=>.inl aaa) λq hq=>⟨(j q hq).1.imp id λh=>?_,(j q hq).2⟩;have:(St.set s b (.cells x.cK e false)).nx=s.nx:=rfl;omega
def Yk (r:Nat)(F:List Nat)(L:List UInt8)(st st':St):Prop:=Kp F st st'/\pq st' r F L
def Wd {r:Nat}{L:List UInt8}{leaf:Bool}{c:dq}(h:pq st r F (iM leaf c++L))(B:c.ok leaf)(hF:∀b∈F,b<st.nx):R 177 [.ptr r 0,.bool leaf] st λx st'=>x=.agg (bg c)/\Yk r F L st st':=by
 refine bK ?_;rw[amv];have k1:Kp F st (St.new st (.cells [.str [],.str [],.int .i64 0,.int .i64 0] 109 false)):=(Kp.refl F st).new _;have g1:(St.new st (.cells [.str [],.str [],.int .i64 0,.int .i64 0] 109 false)).m.g st.nx=some (.cells [.str [],.str [],.int .i64 0,.int .i64 0] 109 false):=au _ _;have n1:(St.new st (.cells [.str [],.str [],.int .i64 0,.int .i64 0] 109 false)).nx=st.nx+1:=rfl;have W:=h.keep ((Kp.refl [] st).new (.cells [.str [],.str [],.int .i64 0,.int .i64 0] 109 false)) wb;rw[cz,aP];generalize St.new st (.cells [.str [],.str [],.int .i64 0,.int .i64 0] 109 false)=s1 at*;have gV:∀b∈F,b≠st.nx:=λb hb=>by have:=hF b hb;omega
 have d:st.nx∉F:=λh=>gV _ h rfl;have e1:iM leaf c++L=uv c.key.length++(c.key++((if leaf=true then (if c.dR=0 then uv 0++(uv c.value.length++c.value)else uv c.dR++uv c.size)else [])++L)):=by unfold iM;simp
 rw[e1]at W;refine(El (m:=48) W B.key uM).mono ?_;rintro _ s2 ⟨rfl,Y,n2,r2⟩;have mo:aZ [.str [],.str [],.int .i64 0,.int .i64 0] [(0,1,.str c.key)] s2=.ok (.agg [.str c.key,.str [],.int .i64 0,.int .i64 0]) s2:=rfl;rw[mo,af];have g2:=(Y.keep st.nx uM d).trans g1;refine mW rfl rfl rfl ?_;have k3:Kp F s2 (St.new s2 (.cells [.str c.key,.str [],.int .i64 0,.int .i64 0] 109 false)):=(Kp.refl F s2).new _;have S:(St.new s2 (.cells [.str c.key,.str [],.int .i64 0,.int .i64 0] 109 false)).m.g s2.nx=some (.cells [.str c.key,.str [],.int .i64 0,.int .i64 0] 109 false):=au _ _;have n3:(St.new s2 (.cells [.str c.key,.str [],.int .i64 0,.int .i64 0] 109 false)).nx=s2.nx+1:=rfl;have e:=r2.keep ((Kp.refl [] s2).new (.cells [.str c.key,.str [],.int .i64 0,.int .i64 0] 109 false)) wb;have U:(St.new s2 (.cells [.str c.key,.str [],.int .i64 0,.int .i64 0] 109 false)).m.g st.nx=_:=(aX _ _ _ uM).trans g2;generalize St.new s2 (.cells [.str c.key,.str [],.int .i64 0,.int .i64 0] 109 false)=s3 at*;have K:=(k1.trans Y afk).trans k3 afk;have C:s2.nx∉F:=λh=>by have:=hF _ h;omega
 have u:∀(s:St),Kp F st s->st.nx<s.nx->s2.nx<s.nx->s.m.g st.nx=some (.cells [.str [],.str [],.int .i64 0,.int .i64 0] 109 false)->s.m.g s2.nx=some (.cells (bg c) 109 false)->pq s r F L->
  us (aJ 4 (.ptr s2.nx 0) s) λx6=>upon (aQ 4 (.ptr st.nx 0) x6 s) λ_ V=>us (aJ 4 (.ptr st.nx 0) V) λx7=>x7=.agg (bg c)/\Yk r F L st V:=by
  intro s hk f w q1 q2 q3;rw[aM (n:=4) q2 rfl,af,aH,q1,aS,aT];have:bz [.str [],.str [],.int .i64 0,.int .i64 0] 0 (bg c)=bg c:=dU _ _ rfl;rw[this];refine⟨⟨rfl,rfl,xI⟩,?_⟩;rw[aM (n:=4) (an _ _ _) rfl,af];exact⟨rfl,hk.set _ (.inr (aHK _)) f,q3.keep (X:=[st.nx]) ((Kp.refl _ s).set _ (.inl wb) f) acK⟩
 rw[cR,af,ag];cases leaf with
 |false=>
  obtain⟨f,w,Z⟩:=B.inner rfl;rw[aHY,aHP rfl];simp only[aHH,aHV,aIm]at e;refine u s3 K uM uM U ?_ e;rw[S];simp[bg,f,w,Z]
 |true=>
  rw[aIb,aHM xI,cM];simp only[aIj]at e
  by_cases A:c.dR=0
  .obtain⟨f,w⟩:=B.short rfl A;rw[aHP A]at e;have e2:(uv 0++(uv c.value.length++c.value))++L=uv 0++(uv c.value.length++(c.value++L)):=by simp
   rw[e2]at e;refine(lB (n:=0) (m:=2147483647) e uM uM).mono ?_;rintro _ a ⟨rfl,j,n8,J⟩;have g8:=(j.keep s2.nx uM C).trans S;have q:=(j.keep st.nx uM d).trans U;have M:bz [.str c.key,.str [],.int .i64 0,.int .i64 0] 2 [I ((0:Nat):Int)]=[.str c.key,.str [],.int .i64 0,.int .i64 0]:=rfl;simp only[fst,fl,ah,af,aH,g8,aS,aHN,ji,M,az,an,ar,aHI,aHG,aw];refine⟨⟨rfl,rfl,wb⟩,?_⟩;have O:Kp F st (St.set a s2.nx (.cells [.str c.key,.str [],.int .i64 0,.int .i64 0] 109 false)):=(K.trans j afk).set _ (.inr uM) uM;have Q:(St.set a s2.nx (.cells [.str c.key,.str [],.int .i64 0,.int .i64 0] 109 false)).m.g s2.nx=some (.cells [.str c.key,.str [],.int .i64 0,.int .i64 0] 109 false):=an _ _ _;have o:(St.set a s2.nx (.cells [.str c.key,.str [],.int .i64 0,.int .i64 0] 109 false)).m.g st.nx=_:=(ak _ _ _ _ uM).trans q;have n9:(St.set a s2.nx (.cells [.str c.key,.str [],.int .i64 0,.int .i64 0] 109 false)).nx=a.nx:=rfl;have H:=J.keep (X:=[s2.nx]) ((Kp.refl [s2.nx] a).set (p:=s2.nx) (.cells [.str c.key,.str [],.int .i64 0,.int .i64 0] 109 false) (.inl wb) uM) (λb hb=>abr);generalize St.set a s2.nx (.cells [.str c.key,.str [],.int .i64 0,.int .i64 0] 109 false)=y at*;have T:aj .eql (some .int) true (.int .i64 0) (.int .i64 0) y=.ok (.bool true) y:=rfl;simp only[T,af,ag,aIj];refine(El (m:=64) H w uM).mono ?_;rintro _ E ⟨rfl,i,na,G⟩;have P:=(i.keep s2.nx uM C).trans Q;have l:=(i.keep st.nx uM d).trans o;have N:bz [.str c.key,.str [],.int .i64 0,.int .i64 0] 1 [.str c.value]=[.str c.key,.str c.value,.int .i64 0,.int .i64 0]:=rfl;simp only[aH,P,aS,aHN,Gx,N,aK,aL];refine⟨⟨rfl,rfl,wb⟩,?_⟩
   have D:=u _ ((O.trans i afk).set (p:=s2.nx) _ (.inr uM) uM) zS zS ((ak _ _ _ (.cells [.str c.key,.str c.value,.int .i64 0,.int .i64 0] 109 false) uM).trans l) (by rw[an];simp[bg,A,f]) (G.keep (X:=[s2.nx]) ((Kp.refl _ E).set (p:=s2.nx) _ (.inl wb) uM) (λb hb=>abr))
   simpa only[aH,aHN]using D
  .obtain⟨f,w,Z,h4⟩:=B.far rfl A;rw[aHM A,aIq]at e;refine(lB (n:=c.dR) (m:=2147483647) e w uM).mono ?_;rintro _ a ⟨rfl,j,n8,J⟩;have g8:=(j.keep s2.nx uM C).trans S;have q:=(j.keep st.nx uM d).trans U;have M:bz [.str c.key,.str [],.int .i64 0,.int .i64 0] 2 [I c.dR]=[.str c.key,.str [],I c.dR,.int .i64 0]:=rfl;simp only[fst,fl,ah,af,aH,g8,aS,aHN,ji,M,az,an,ar,aHI,aHG,aw];refine⟨⟨rfl,rfl,wb⟩,?_⟩;have O:Kp F st (St.set a s2.nx (.cells [.str c.key,.str [],I c.dR,.int .i64 0] 109 false)):=(K.trans j afk).set _ (.inr uM) uM;have Q:(St.set a s2.nx (.cells [.str c.key,.str [],I c.dR,.int .i64 0] 109 false)).m.g s2.nx=some (.cells [.str c.key,.str [],I c.dR,.int .i64 0] 109 false):=an _ _ _;have o:(St.set a s2.nx (.cells [.str c.key,.str [],I c.dR,.int .i64 0] 109 false)).m.g st.nx=_:=(ak _ _ _ _ uM).trans q;have n9:(St.set a s2.nx (.cells [.str c.key,.str [],I c.dR,.int .i64 0] 109 false)).nx=a.nx:=rfl;have H:=J.keep (X:=[s2.nx]) ((Kp.refl [s2.nx] a).set (p:=s2.nx) (.cells [.str c.key,.str [],I c.dR,.int .i64 0] 109 false) (.inl wb) uM) (λb hb=>abr);generalize St.set a s2.nx (.cells [.str c.key,.str [],I c.dR,.int .i64 0] 109 false)=y at*;have T:aj .eql (some .int) true (I c.dR) (.int .i64 0) y=.ok (.bool false) y:=by rw[av,cC,aHL uM]
   simp only[T,af,ag,aHH,aHV];refine(lB (n:=c.size) (m:=2147483647) H h4 uM).mono ?_;rintro _ E ⟨rfl,i,na,G⟩;have P:=(i.keep s2.nx uM C).trans Q;have l:=(i.keep st.nx uM d).trans o;have N:bz [.str c.key,.str [],I c.dR,.int .i64 0] 3 [I c.size]=[.str c.key,.str [],I c.dR,I c.size]:=rfl;simp only[aH,P,aS,aHN,ji,N,aK,aL];refine⟨⟨rfl,rfl,wb⟩,?_⟩;have D:=u _ ((O.trans i afk).set (p:=s2.nx) _ (.inr uM) uM) zS zS ((ak _ _ _ (.cells [.str c.key,.str [],I c.dR,I c.size] 109 false) uM).trans l) (by rw[an];simp[bg,f]) (G.keep (X:=[s2.nx]) ((Kp.refl _ E).set (p:=s2.nx) _ (.inl wb) uM) (λb hb=>abr))
   simpa only[aH,aHN]using D
def bo.hasB (n:bo)(a:bY):Bool:=match n.cells[n.find a]? with|some c=>decide (c.key=a)|none=>false
def R5 {n:bo}{key:bY}(h:IsNode st [] v n)(hl:n.cells.length<=100000):R 91 [v,.str key] st λx st'=>x=.tuple [I (n.find key),.bool (n.hasB key)]/\Kp [] st st':=by
 obtain⟨a,f,rfl,r,h2⟩:=h;refine bK ?_;rw[w91];rw[bS,aT];refine⟨rfl,?_⟩;have T:Kp [] st (St.new st (.cells [.bool n.leaf,a,f] 105 false)):=(Kp.refl [] st).new _;have X:(St.new st (.cells [.bool n.leaf,a,f] 105 false)).m.g st.nx=some (.cells [.bool n.leaf,a,f] 105 false):=au _ _;have n1:(St.new st (.cells [.bool n.leaf,a,f] 105 false)).nx=st.nx+1:=rfl;generalize St.new st (.cells [.bool n.leaf,a,f] 105 false)=s1 at*;rw[bS,Gx];refine⟨rfl,?_⟩;have N:Kp [] s1 (St.new s1 (.cells [.str key] 9 false)):=(Kp.refl [] s1).new _;have O:(St.new s1 (.cells [.str key] 9 false)).m.g s1.nx=some (.cells [.str key] 9 false):=au _ _;have n2:(St.new s1 (.cells [.str key] 9 false)).nx=s1.nx+1:=rfl;generalize St.new s1 (.cells [.str key] 9 false)=s2 at*;have J:=(N.keep st.nx uM wb).trans X;have u:=T.trans N wb;simp only[fl,ah,af,az,J,ar,aHN,aHI,aHG,aw,lV]
 have E:R 139 [a,.func (.func 140) [] [.ptr s1.nx 0]] s2 λx s=>x=(if n.find key<n.cells.length then I (n.find key)else .int .i64 (-1))/\Kp [] s2 s:=by
  refine bK ?_;rw[amZ];have hlen:=(r.mono u).len n.cells.length (bQ _) uM s2;simp only[cM,aK,aL,hlen,af];refine bG (λfu H s=>∃i,fu+i=n.cells.length/\i<=n.find key/\H=[a,.func (.func 140) [] [.ptr s1.nx 0],I n.cells.length,I i]/\Kp [] s2 s) ?_ (n:=n.cells.length) ⟨0,rfl,aJL _,rfl,Kp.refl _ _⟩;rintro fu H s k ⟨i,hi,B,rfl,d⟩ next;simp only[aK,aL,dD,af,ag]
  by_cases hc:i<n.cells.length
  .rw[aHQ hc,aHP rfl];have G:=u.trans d wb;refine(r.mono G).gU (L:=n.cells.map bg) uM (fQ _) I2 _ ?_;have e:(n.cells.map bg)[i]'(by simpa using hc)=bg n.cells[i]:=by simp
   rw[e,dM];refine bK ?_;simp only[aIm,aIL];rw[amY];rw[bS,aT];refine⟨rfl,?_⟩;have W:(St.new s (.cells (bg n.cells[i]) 109 false)).m.g s.nx=some (.cells [.str n.cells[i].key,.str n.cells[i].value,I n.cells[i].dR,I n.cells[i].size] 109 false):=au _ _;have y:Kp [] s (St.new s (.cells (bg n.cells[i]) 109 false)):=(Kp.refl _ s).new _;have V:=(y.keep s1.nx (by have:=d.nx;omega) wb).trans ((d.keep s1.nx uM wb).trans O);generalize St.new s (.cells (bg n.cells[i]) 109 false)=s4 at*;simp only[fl,ah,af,az,W,V,ar,aHN,aHG,aw,ep,wC,ag]
   by_cases o:lj key n.cells[i].key
   .rw[aHQ o,aHP rfl]
    have Rn:n.find key<=i:=by
     rcases aIX i (n.find key)with h|h
     .have:=List.not_of_lt_findIdx h;simp[o]at this
     .exact h
    have:n.find key=i:=uM
    rw[this,aHP hc];exact⟨rfl,d.trans y wb⟩
   .rw[aHL o,aHM xI,gJ i uM,af];refine next (fu-1) _ _ uM ⟨i+1,uM,?_,rfl,d.trans y wb⟩;rcases aKh B with h|h
    .exfalso;have:=List.findIdx_getElem (p:=λc:dq=>decide (lj key c.key)) (xs:=n.cells) (w:=aaj);simp only[aIP]at this;refine o ?_;have Y:n.cells[i]=n.cells[List.findIdx (λc:dq=>decide (lj key c.key)) n.cells]'(by rw[show List.findIdx (λc:dq=>decide (lj key c.key)) n.cells=n.find key from rfl,<-h];exact hc):=by congr 1
     rw[Y];exact this
    .exact h
  .rw[aHL hc,aHM xI,aHM uM];exact⟨rfl,d⟩
 refine E.mono ?_;rintro _ s3 ⟨rfl,A⟩;have j:=u.trans A wb;have K:=(A.keep st.nx uM wb).trans J;have Ih:=(A.keep s1.nx uM wb).trans O;have U:n.find key<=n.cells.length:=aKb
 by_cases q:n.find key<n.cells.length
 .rw[aHP q];have D:aj .lss none true (I (n.find key)) (.int .i64 0) s3=.ok (.bool false) s3:=by rw[av,c8,aHL uM]
  obtain⟨b,p,l,t,g,S,Q,q3,q4,P⟩:=(r.mono j).cellAt (L:=n.cells.map bg) uM (fQ _) (i:=n.find key) (by simpa using q);have M:=P 0 (.str n.cells[n.find key].key) acm;rw[aIv]at M
  have C:n.hasB key=decide (n.cells[n.find key].key=key):=by
   unfold bo.hasB;rw[aHO q]
  simp only[D,af,ag,aHH,aHV,bD,ah,az,K,ar,aIv,aHI,aHG,aw,S,Q,M,Ih,ep,mT,C,aKc,and_true];exact j
 .rw[aHM q];have D:aj .lss none true (.int .i64 (-1)) (.int .i64 0) s3=.ok (.bool true) s3:=rfl;have hlen:=(r.mono j).len n.cells.length (bQ _) uM s3;have Z:n.find key=n.cells.length:=by omega
  have C:n.hasB key=false:=by
   unfold bo.hasB;rw[aIN uM]
  simp only[D,af,ag,aIj,K,ar,aHI,aHG,aw,hlen,C,Z];exact⟨afp,j⟩
end
end
