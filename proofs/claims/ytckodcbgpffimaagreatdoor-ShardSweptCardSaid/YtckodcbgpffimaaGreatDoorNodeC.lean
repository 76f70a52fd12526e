import Derived.Test.YtckodcbgpffimaaGreatDoorNodeB
namespace Lim
open Go
noncomputable section
set_option linter.defProp false
set_option maxRecDepth 100000
section
variable {k e n:Nat}{z vs:δ K}{Ls:δ (δ K)}{a0:K}
section
variable {Z Z':O}
def RJ (n:Nat)(z:δ K):(cr n z).length=n*z.length:=by
 unfold cr;rw[dU (w:=z.length) (by intro x a;rw[List.eq_of_mem_replicate a])];simp
def O2 (n:Nat)(z:δ K)(i:Nat)(h:i<=n):(cr n z).drop (i*z.length)=cr (n-i) z:=by
 unfold cr;rw[vz (w:=z.length) (by intro x a;rw[List.eq_of_mem_replicate a]) i GU,aNP]
def wH (k e:Nat)(z:δ K)(n:Nat)(Z:O)(x:K)(Z':O):Prop:=if n=0 then x=.ae/\Z'=Z else x=.slice Z.nx 0 0 n k/\Z'=O.new Z (.cells (cr n z) e true)
def Z6 {bytes:Nat}(r:0<k)(T:z.length=k)(q:n<=100000)(u:bytes<=1000):
 U (aY .cap .ae Z) λo=>U (aY .slice .ae Z) λj=>U (R .sub ν false o j Z) λi=>U (R .sub ν false (I n) i Z) λc=>U (R .gtr ν true c μ Z) λg=>
  aA g (U (aY .cap .ae Z) λf=>U (aQ k .ae ν (Φ f) Z) λd=>E (bI e k bytes d (cZ .zeros k z c Z) Z) λP s2=>U (aY .slice .ae s2) λN=>U (aQ k P ν (Φ N) s2) λM=>wH k e z n Z M s2) (wH k e z n Z .ae Z):=by
 have H:aY .cap .ae Z=.ok μ Z:=rfl;have G:∀s,aY .slice .ae s=.ok μ s:=λs=>rfl;have F:R .sub ν false μ μ Z=.ok μ Z:=rfl;have D:R .sub ν false (I n) μ Z=.ok (I n) Z:=by rw[au,dY,bt J];congr 2
 have C:R .gtr ν true (I n) μ Z=.ok (.bool (decide (0<n))) Z:=yZ
 have y:aQ k .ae ν (Φ μ) Z=.ok .ae Z:=rfl;simp only[H,G,F,D,C,xl,y]
 by_cases a:n=0
 .subst a;rw[B tW];unfold wH;rw[gq rfl];exact⟨rfl,rfl⟩
 .rw[gq (by simpa using Nat.pos_of_ne_zero a)]
  have x:cZ .zeros k z (I n) Z=Φ (n,cr n z):=by
   have:cZ .zeros k z (I n) Z=bF (Nat.ble n 1099511627776) (Φ (n,cr n z)) ν:=rfl;rw[this,aS,gq ô]
  have Q:=aOd q u
  have w:bI e k bytes .ae (Φ (n,cr n z)) Z=.ok (.slice Z.nx 0 n n k) (O.new Z (.cells (cr n z) e true)):=by
   have e:bI e k bytes .ae (Φ (n,cr n z)) Z=bF (Nat.beq n 0) (.ok .ae Z) (bF (Bool.and (Nat.ble 1 k) (Bool.and (Nat.ble (Nat.mul n bytes) 140737488355328) (Nat.ble n 140737488355328)))
    (.ok (.slice Z.nx 0 n n k) ⟨Z.m.put Z.nx (Φ (.cells (cr n z) e true)),Z.nx+1⟩) .bad):=rfl
   rw[e];simp only[aS,md,mZ,nR];rw[B a,gq ⟨r,rx Q J,J⟩];rfl
  rw[x,w,aP]
  have v:aQ k (.slice Z.nx 0 n n k) ν (Φ μ) (O.new Z (.cells (cr n z) e true))=.ok (.slice Z.nx 0 0 n k) (O.new Z (.cells (cr n z) e true)):=by
   obtain⟨L,p,S⟩:=kL (k:=k) (b:=Z.nx) (off:=0) (len:=n) (cap:=n) (grow:=k) (l:=0) (h:=0) (lo:=ν) (hi:=Φ (ζ 0)) (Z:=O.new Z (.cells (cr n z) e true)) afD (hI _) (.inr rfl);have:L=0:=J
   subst this;exact p
  rw[v,af];unfold wH;rw[B a];exact⟨rfl,rfl⟩
def XJ (a:n<=100000):Rq0 279 [.ae,I n] Z (wH 4 255 ϐ1 n Z):=by
 refine bE ?_;rw[aoJ];have b:R .lss ν true (I n) μ Z=.ok Θ Z:=aan
 rw[bU,b,af,ag,B tW];simp only[ke];exact Z6 J rfl a J
def XI (a:n<=100000):Rq0 280 [.ae,I n] Z (wH 1 3 [μ] n Z):=by
 refine bE ?_;rw[aoI];have b:R .lss ν true (I n) μ Z=.ok Θ Z:=aan
 rw[bU,b,af,ag,B tW];simp only[ke];exact Z6 J rfl a J
def yT (Z:O)(k:Nat):δ K->δ (δ K)->Prop
 |[],[]=>True
 |v::vs,l::ls=>(Sl Z [] v k l/\∃n,l.length=n*k/\n<=10000)/\yT Z k vs ls
 |_,_=>False
def yT.mono (h:yT Z k vs Ls)(b:Kp [] Z Z'):yT Z' k vs Ls:=by
 induction vs generalizing Ls with
 |nil=>cases Ls with|nil=>trivial|cons l L=>exact h
 |cons v vs a=>cases Ls with|nil=>exact h|cons l L=>exact⟨⟨h.1.1.mono b,h.1.2⟩,a h.2⟩
def yT.len (h:yT Z k vs Ls):vs.length=Ls.length:=by
 induction vs generalizing Ls with
 |nil=>cases Ls with|nil=>rfl|cons l L=>exact h.elim
 |cons v vs a=>cases Ls with|nil=>exact h.elim|cons l L=>simp[a h.2]
def yT.at (h:yT Z k vs Ls){i:Nat}(hi:i<vs.length):∃d:i<Ls.length,Sl Z [] vs[i] k Ls[i]/\∃n,Ls[i].length=n*k/\n<=10000:=by
 induction vs generalizing Ls i with
 |nil=>simp at hi
 |cons v vs c=>
  cases Ls with
  |nil=>exact h.elim
  |cons l L=>
   cases i with
   |zero=>exact⟨V,h.1⟩
   |succ i=>obtain⟨a,b⟩:=c h.2 (i:=i) J9;exact⟨xI,b⟩
def sH (k:Nat)(Ls:δ (δ K))(i:Nat):Nat:=(Ls.take i).flatten.length/k
def yT.eu (d:0<k)(h:yT Z k vs Ls):∀i,(Ls.take i).flatten.length=sH k Ls i*k/\sH k Ls i<=10000*i:=by
 have key:∀(vs:δ K) (Ls:δ (δ K)),yT Z k vs Ls->∀i,∃m,(Ls.take i).flatten.length=m*k/\m<=10000*i:=by
  intro vs
  induction vs with
  |nil=>intro Ls h i;cases Ls with|nil=>exact⟨0,V⟩|cons l L=>exact h.elim
  |cons v vs c=>
   intro Ls h i;cases Ls with
   |nil=>exact h.elim
   |cons l L=>
    cases i with
    |zero=>exact⟨0,V⟩
    |succ i=>
     obtain⟨m,a,b⟩:=c L h.2 i;obtain⟨n,f,g⟩:=h.1.2;exact⟨n+m,by rw[aNO,YN,km,a,f,tx],J⟩
 intro i;obtain⟨m,a,b⟩:=key vs Ls h i;have:sH k Ls i=m:=by unfold sH;rw[a,Nat.mul_div_cancel _ d]
 rw[this];exact⟨a,b⟩
def yR (s:O)(x:K)(k e:Nat)(z:δ K)(b m n:Nat)(L:δ K):Prop:=
 L.length=m*k/\m<=n/\((n=0/\x=.ae)\/(0<n/\x=.slice b 0 m n k/\s.m.g b=Φ (.cells (L++cr (n-m) z) e true)))
def yR.append {s:O}{x v:K}{bytes:Nat}{b m j:Nat}{L T:δ K}(h:yR s x k e z b m n L)(G:0<k)(o:z.length=k)(I:b<s.nx\/n=0)(C:Sl s [] v k T)(d:T.length=j*k)(y:bh T=θ)(f:m+j<=n):
 ∃l s',bI e k bytes x (cZ .slice k z v s) s=.ok l s'/\yR s' l k e z b (m+j) n (L++T)/\s'.nx=s.nx/\(∀q,q≠b->s'.m.g q=s.m.g q):=by
 obtain⟨h1,r,H⟩:=h;obtain⟨c,w,u⟩:=C.src z;have:c=j:=So G (by rw[<-w,d]);subst this;rw[u];have a:(L++T).length=(m+c)*k:=by rw[km,h1,d,tx]
 rcases H with⟨rfl,rfl⟩|⟨p,rfl,h5⟩
 .have:c=0:=by omega
  subst this;exact⟨.ae,s,rfl,⟨a,f,.inl ⟨rfl,rfl⟩⟩,rfl,λ_ _=>rfl⟩
 .by_cases h0:c=0
  .subst h0;have i:T=[]:=sS.1 J;subst i;refine⟨.slice b 0 m n k,s,?_,⟨QM,r,.inr ⟨p,rfl,aeq⟩⟩,rfl,λ_ _=>rfl⟩;have e:bI e k bytes (.slice b 0 m n k) (Φ (0,[])) s=bF (Nat.ble m n) (.ok (.slice b 0 m n k) s) .bad:=rfl;rw[e,aS,gq (by rw[nR];exact r)]
  .have e:bI e k bytes (.slice b 0 m n k) (Φ (c,T)) s=.ok (.slice b 0 (m+c) n k) (O.set s b (.cells (bC (L++cr (n-m) z) (m*k) T) e true)):=by
    unfold bI;simp only[aS,md,dR,nR];rw[B h0,gq (show Nat.add m c<=n from f),h5];dsimp only
    have F:eB (L++cr (n-m) z) (0+m*k) T=Φ (bC (L++cr (n-m) z) (m*k) T):=by
     unfold eB;rw[oa,gq]
     .rfl
     .rw[km,RJ,h1,d,o,<-tx,<-tx];exact zv k J
    rw[y,gq rfl,F];rfl
   refine⟨_,_,e,⟨a,f,.inr ⟨p,rfl,?_⟩⟩,rfl,λq D=>ar _ _ _ _ D⟩;rw[ao]
   congr 2
   rw[<-h1,rO,we]
   congr 2
   rw[d,<-o,O2 _ _ _ J]
   congr 1;omega
def Oo {gr bytes:Nat}(f:0<k)(hz:z.length=k)(Y:∀(s:O) (n:Nat),n<=100000->Rq0 gr [.ae,I n] s (wH k e z n s))(ha:Sl Z [] a0 1 vs)(h:yT Z k vs Ls)(hl:vs.length<=9)(ln:∀l∈Ls,bh l=θ):
 cV (λa s2 k3=>U (R .lss ν false (A 4 a) (A 3 a) s2) λx5=>aA x5 (Lim.idx 1 (A 2 a) (A 4 a) s2 λx6=>U (aY .slice x6 s2) λx7=>U (R .add ν false (A 1 a) x7 s2) λx8=>U (R .lss ν true x8 μ s2) λx9=>
  aA x9 (U (mG 9 (.str [108,101,110,32,111,117,116,32,111,102,32,114,97,110,103,101]) s2) λcG=>False) (U (R .add ν true (A 4 a) ϖ s2) λcN=>k3 [A 0 a,x8,A 2 a,A 3 a,cN] s2))
  (Rq0 gr [.ae,A 1 a] s2 λF s3=>dp (λy s4=>cV (λg p lH=>U (R .lss ν false (A 3 g) (A 2 g) p) λdO=>aA dO (Lim.idx 1 (A 1 g) (A 3 g) p λdC=>E (bI e k bytes (A 0 g) (cZ .slice k z dC p) p) λdD P=>
   U (R .add ν true (A 3 g) ϖ P) λdN=>lH [dD,A 1 g,A 2 g,dN] P) (Made k e Ls.flatten Z (A 0 g) p)) [A 0 y,A 1 y,A 2 y,A 3 y] s4) λrl=>U (aY .slice (A 0 a) s3) λdL=>rl [F,A 0 a,dL,μ] s3))
  [a0,μ,a0,I vs.length,μ] Z:=by
 have Zx:=h.len
 refine bD (λfu w s=>∃i,fu+i=vs.length/\w=[a0,I (sH k Ls i),a0,I vs.length,I i]/\s=Z) ?_ (n:=vs.length) ⟨0,rfl,by
  have:sH k Ls 0=0:=by simp[sH]
  rw[this];rfl,rfl⟩
 rintro fu w s kk ⟨i,hi,rfl,rfl⟩ next;obtain⟨G,ac⟩:=h.eu f i;simp only[DJ,dd]
 by_cases D:i<vs.length
 .rw[jp D,gq rfl];refine ha.idx D _ ?_;obtain⟨q,C,n,u,T⟩:=h.at D;obtain⟨L,Hh⟩:=h.eu f (i+1)
  have M:sH k Ls (i+1)=sH k Ls i+n:=by
   refine So f ?_;rw[<-L,su q,aNQ,km,G,tx];simp[u]
  have e1:R .add ν false (I (sH k Ls i)) (I n) s=.ok (I (sH k Ls (i+1))) s:=by rw[au,cE,bt J,M];rfl
  have e2:R .lss ν true (I (sH k Ls (i+1))) μ s=.ok Θ s:=aan
  simp only[C.len n u f s,e1,e2,ll,ii,fV i J];exact next (fu-1) _ _ J ⟨i+1,J,rfl,rfl⟩
 .rw[jo D,B tW];have Er:Ls.take i=Ls:=lw J;rw[Er]at G;refine(Y s _ J).mono ?_;intro F s3 c;generalize hN:sH k Ls i=N at*
  have lQ:Kp [] s s3:=by
   unfold wH at c
   split at c
   .rw[c.2];exact Δ _ _
   .rw[c.2];exact(Δ _ s).new _
  have ab:s3.nx=s.nx+1\/N=0:=by
   unfold wH at c
   split at c
   .rename_i o;exact .inr o
   .rw[c.2];exact .inl rfl
  have hF:yR s3 F k e z s.nx 0 N []:=by
   unfold wH at c;refine⟨V,sw _,?_⟩
   split at c
   .rename_i o;exact .inl ⟨o,c.1⟩
   .rename_i o;rw[c.2];exact .inr ⟨J,c.1,V⟩
  have NP:=(ha.mono lQ).len vs.length J J s3;simp only[yB,NP,af];refine bD (λfu w s'=>∃i x,fu+i=vs.length/\w=[x,a0,I vs.length,I i]/\yR s' x k e z s.nx (sH k Ls i) N (Ls.take i).flatten/\Kp [] s s'/\(s.nx<s'.nx\/N=0)) ?_ (n:=vs.length) ⟨0,F,rfl,rfl,by simpa[sH]using hF,lQ,J⟩;rintro fu w s' kk ⟨i,x,hi,rfl,r,j,d⟩ next;simp only[DJ,dd]
  by_cases v:i<vs.length
  .rw[jp v,gq rfl];refine(ha.mono j).idx v _ ?_;obtain⟨q,C,n,u,T⟩:=(h.mono j).at v;obtain⟨H,_⟩:=h.eu f i;obtain⟨L,Hh⟩:=h.eu f (i+1)
   have M:sH k Ls (i+1)=sH k Ls i+n:=by
    refine So f ?_;rw[<-L,su q,aNQ,km,H,tx];simp[u]
   have W:sH k Ls i+n<=N:=by
    rw[<-M];refine Nat.le_of_mul_le_mul_right ?_ f;rw[<-L,<-G]
    conv=>rhs;rw[<-CV (i+1) Ls]
    rw[aNQ,km];omega
   obtain⟨x',P,S,q2,Q,q4⟩:=r.append (bytes:=bytes) f hz d C u (ln _ (mp q)) W;rw[S,aP,fV i J,af];have e5:(Ls.take i).flatten++Ls[i]=(Ls.take (i+1)).flatten:=by rw[su q,aNQ];simp
   rw[e5,<-M]at q2;refine next (fu-1) _ _ J ⟨i+1,x',J,rfl,q2,⟨by rw[Q];exact j.nx,λb m Et=>(q4 b J).trans (j.keep b m Et),λlR b m=>?_⟩,by rw[Q];exact d⟩;rw[Q]at m;rcases d with d|d
   .rw[q4 b J];exact j.fresh lR b m
   .rcases r.2.2 with⟨_,rfl⟩|⟨h4,_⟩
    .have:n=0:=by omega
     subst this;have aa:Ls[i]=[]:=sS.1 J;obtain⟨j',r1,r2⟩:=C.src z
     have:j'=0:=by
      have h9:j'*k=0:=by rw[<-r1,aa];rfl
      rcases Nat.mul_eq_zero.1 h9 with h|h
      .exact h
      .omega
     subst this;rw[r2]at S;cases S;exact j.fresh lR b m
    .omega
  .rw[jo v,B tW];have ht:Ls.take i=Ls:=lw J;obtain⟨H,_⟩:=h.eu f i;rw[ht]at H r;have X:sH k Ls i=N:=So f (by rw[<-H,G]);rw[X]at r;obtain⟨f1,f2,f3⟩:=r;rcases f3 with⟨o,rfl⟩|⟨o,rfl,f4⟩
   .have:=sS.1 (by rw[f1,o];simp);exact⟨[],j,.inl ⟨rfl,this,rfl⟩,V⟩
   .refine⟨[s.nx],j,.inr (.inr ⟨s.nx,N,rfl,o,f1,rfl,?_⟩),λb m=>?_⟩
    .rw[f4];simp[cr]
    .simp at m;subst m;omega
def EI (a:Sl Z [] a0 1 vs)(h:yT Z 4 vs Ls)(d:vs.length<=9)(b:∀l∈Ls,bh l=θ):Rq0 249 [a0] Z (Made 4 255 Ls.flatten Z):=by
 refine bE ?_;rw[aoV];have hlen:=a.len vs.length J J Z;have:=Oo (gr:=279) (k:=4) (e:=255) (bytes:=48) (z:=ϐ1) J rfl (λs n c=>XJ c) a h d b;simp only[yB,hlen,af]at this⊢;exact this
def Qd (a:Sl Z [] a0 1 vs)(h:yT Z 1 vs Ls)(d:vs.length<=9)(b:∀l∈Ls,bh l=θ):Rq0 250 [a0] Z (Made 1 3 Ls.flatten Z):=by
 refine bE ?_;rw[aoU];have hlen:=a.len vs.length J J Z;have:=Oo (gr:=280) (k:=1) (e:=3) (bytes:=8) (z:=[μ]) J rfl (λs n c=>XI c) a h d b;simp only[yB,hlen,af]at this⊢;exact this
end
end
section
variable {Z Z':O}
def lM {l:δ dq}(h:l.length<=10000):∃n,(bL l).length=n*4/\n<=10000:=⟨l.length,bN l,h⟩
def Yj {va vb:K}{a b:bp}{d:bS}(hf:dV Z)(ha:IsNode Z [] va a)(u:IsNode Z [] vb b)(h1:a.cells.length<=1000)(h2:b.cells.length<=1000)(h3:a.kids.length<=1001)(h4:b.kids.length<=1001):
 Rq0 216 [va,.str d,vb] Z λx Z'=>Kp [] Z Z'/\∀X,(∀b∈X,b<Z.nx)->IsNode Z' X x (dK a d b):=by
 obtain⟨i,l,rfl,e1,f1⟩:=ha;obtain⟨f,j,rfl,e2,f2⟩:=u;obtain⟨x1,x2,r⟩:=e1.bM;obtain⟨y1,y2,L⟩:=f1.bM;obtain⟨z1,z2,w⟩:=e2.bM;obtain⟨w1,w2,w3⟩:=f2.bM;refine bE ?_;rw[apr];rw[bz,aN];refine⟨rfl,?_⟩;have k1:Kp [] Z (O.new Z (Ϙ [.bool a.leaf,i,l])):=(Δ [] Z).new _;have g1:(O.new Z (Ϙ [.bool a.leaf,i,l])).m.g Z.nx=Φ (Ϙ [.bool a.leaf,i,l]):=ay _ _;have n1:(O.new Z (Ϙ [.bool a.leaf,i,l])).nx=Z.nx+1:=rfl;generalize O.new Z (Ϙ [.bool a.leaf,i,l])=s1 at*;rw[bz,aN];refine⟨rfl,?_⟩;have k2:Kp [] s1 (O.new s1 (Ϙ [.bool b.leaf,f,j])):=(Δ [] s1).new _;have g2:(O.new s1 (Ϙ [.bool b.leaf,f,j])).m.g s1.nx=Φ (Ϙ [.bool b.leaf,f,j]):=ay _ _;have n2:(O.new s1 (Ϙ [.bool b.leaf,f,j])).nx=s1.nx+1:=rfl;generalize O.new s1 (Ϙ [.bool b.leaf,f,j])=s2 at*;have k3:Kp [] s2 (O.new s2 ϐb):=(Δ [] s2).new _;have g3:(O.new s2 ϐb).m.g s2.nx=Φ ϐb:=ay _ _;have n3:(O.new s2 ϐb).nx=s2.nx+1:=rfl;rw[bW,aP];generalize O.new s2 ϐb=s3 at*;have mW:=(k3.keep Z.nx J V).trans ((k2.keep Z.nx J V).trans g1);have yV:=(k3.keep s1.nx J V).trans g2;have lQ:=(k1.trans k2 V).trans k3 V;have mL:∀a b c:K,bC Þ 0 [a,b,c]=[a,b,c]:=λa b c=>rfl;simp only[fl,ly,mW,kc,io,ag];cases il:a.leaf with
 |true=>
  have NW:bB 249 2 (cr 2 [.ae]) [(0,1,i),(1,1,f)] s3=.ok (.slice s3.nx 0 2 2 0) (O.new s3 (ϵ [i,f])):=by
   have e:gY [(0,1,i),(1,1,f)] (cr 2 [.ae])=Φ [i,f]:=by
    rw[cW,gq ⟨⟨by rw[r];rfl,x1⟩,by rw[r];exact(by decide:0+1<=2)⟩,cW,gq ⟨⟨by rw[w];rfl,z1⟩,by rw[w,r];exact(by decide:1+1<=2)⟩,mi,r,w];rfl
   unfold bB;rw[e];rfl
  simp only[ix,yV,lW,kc,io,NW,aP];have k4:Kp [] s3 (O.new s3 (ϵ [i,f])):=(Δ [] s3).new _;have g4:(O.new s3 (ϵ [i,f])).m.g s3.nx=Φ (ϵ [i,f]):=ay _ _;have n4:(O.new s3 (ϵ [i,f])).nx=s3.nx+1:=rfl;generalize O.new s3 (ϵ [i,f])=s4 at*;have M:=lQ.trans k4 V;have lP:Sl s4 [] (.slice s3.nx 0 2 2 0) 1 [i,f]:=.inr ⟨s3.nx,0,2,2,0,rfl,rfl,⟨hI _,.inl rfl⟩,.inr ⟨V,J,_,_,_,g4,V,rfl⟩⟩;refine(EI (Ls:=[bL a.cells,bL b.cells]) lP ⟨⟨e1.mono M,lM J⟩,⟨e2.mono M,lM J⟩,gt⟩ V V).mono ?_;intro x8 s5 m5;have k5:=m5.kp;have n5:=k5.nx;have aq:=(k5.keep s2.nx J V).trans ((k4.keep s2.nx J V).trans g3);obtain⟨F,a1,v,a3⟩:=m5;obtain⟨p1,p2⟩:=v.cI;have p3:=(v.sl (X:=[]) λb u=>⟨V,(a3 b u).2⟩).bM.1
  have ql:aR Þ [(0,1,ι),(1,1,x8)] s5=.ok (.agg [ι,x8,.ae]) s5:=by
   rw[eK];simp[cW,bC,p2,p3]
  rw[ql,af,aK,aq,aU,aN,mL];refine⟨⟨rfl,by simp[p1],V⟩,?_⟩;rw[aG (n:=3) (ao ..) rfl,af];refine⟨(M.trans k5 V).set _ (.inr J) J,λX T=>⟨x8,.ae,?_,?_,.inl ⟨rfl,?_⟩⟩⟩
  .unfold dK;rw[gq il]
  .have:bL (dK a d b).cells=[bL a.cells,bL b.cells].flatten:=by unfold dK;rw[gq il,iY];simp
   rw[this];exact(v.mono λq hq=>ar _ _ _ _ afm).sl λq hq=>⟨λh=>by have:=T q h;have:=(a3 q hq).1;have:=M.nx;omega,(a3 q hq).2⟩
  .unfold dK;rw[gq il];rfl
 |false=>
  rw[B tW,aZ];have LU:Kp [] s3 (O.skip (O.skip (O.skip s3))):=((Δ _ s3).skip).skip.skip;have lR:=lQ.fresh hf;have gm:∀q,(O.skip (O.skip (O.skip s3))).m.g q=s3.m.g q:=λq=>rfl;have aQ:(O.skip (O.skip (O.skip s3))).nx=s3.nx+3:=rfl;have ab:(O.skip s3).nx=s3.nx+1:=rfl;have aa:(O.skip (O.skip s3)).nx=s3.nx+2:=rfl;have aL:(O.skip (O.skip (O.skip s3))).m.g s3.nx=ν:=lR _ (hI _);have aM:(O.skip (O.skip (O.skip s3))).m.g (s3.nx+1)=ν:=lR _ J;have Gn:(O.skip (O.skip (O.skip s3))).m.g (s3.nx+2)=ν:=lR _ J;rw[ab,aa];generalize O.skip (O.skip (O.skip s3))=o at*;have Jj:=(LU.keep Z.nx J V).trans mW;have XM:=(LU.keep s1.nx J V).trans yV;have G:=(LU.keep s2.nx J V).trans g3;have ax:aR ϐ1 [(0,1,.str d)] o=.ok (.agg (ba (gU d))) o:=rfl;simp only[Jj,kc,io,ax,rb];rw[fY aL (pH (k:=4) rfl rfl rfl),aP];have S:Kp [s3.nx,s3.nx+1,s3.nx+2] o (O.set o s3.nx (.cells (K.agg (ba (gU d))).bY 255 false)):=(Δ _ o).set _ (.inl V) J;have ak:(O.set o s3.nx (.cells (K.agg (ba (gU d))).bY 255 false)).m.g s3.nx=Φ (Ϛ (ba (gU d))):=ao ..;have am:(O.set o s3.nx (.cells (K.agg (ba (gU d))).bY 255 false)).m.g (s3.nx+1)=ν:=(ar _ _ _ _ J).trans aM;have al:(O.set o s3.nx (.cells (K.agg (ba (gU d))).bY 255 false)).m.g (s3.nx+2)=ν:=(ar _ _ _ _ J).trans Gn;have n7:(O.set o s3.nx (.cells (K.agg (ba (gU d))).bY 255 false)).nx=o.nx:=rfl;generalize O.set o s3.nx (.cells (K.agg (ba (gU d))).bY 255 false)=y at*;have au:=(S.keep s1.nx J xI).trans XM;have yW:=(S.keep Z.nx J xI).trans Jj;have aS:=(S.keep s2.nx J xI).trans G;simp only[au,lW,kc,io]
  have aC:gY [(0,1,i),(1,1,.slice s3.nx 0 1 1 0),(2,1,f)] (cr 3 [.ae])=Φ [i,.slice s3.nx 0 1 1 0,f]:=by
   rw[cW,gq ⟨⟨by rw[r];rfl,x1⟩,by rw[r];exact(by decide:0+1<=3)⟩,cW,gq ⟨⟨rfl,rfl⟩,by rw[r];exact(by decide:1+1<=3)⟩,cW,gq ⟨⟨by rw[w];rfl,z1⟩,by rw[w,r];exact(by decide:2+1<=3)⟩,mi,r,w];rfl
  rw[fY am aC,aP];have Q:Kp [s3.nx,s3.nx+1,s3.nx+2] o (O.set y (s3.nx+1) (ϵ [i,.slice s3.nx 0 1 1 0,f])):=S.set _ (.inl V) J;have ai:(O.set y (s3.nx+1) (ϵ [i,.slice s3.nx 0 1 1 0,f])).m.g (s3.nx+1)=Φ (ϵ [i,.slice s3.nx 0 1 1 0,f]):=ao ..;have aj:(O.set y (s3.nx+1) (ϵ [i,.slice s3.nx 0 1 1 0,f])).m.g s3.nx=Φ (Ϛ (ba (gU d))):=(ar _ _ _ _ J).trans ak;have D:(O.set y (s3.nx+1) (ϵ [i,.slice s3.nx 0 1 1 0,f])).m.g (s3.nx+2)=ν:=(ar _ _ _ _ J).trans al;have n8:(O.set y (s3.nx+1) (ϵ [i,.slice s3.nx 0 1 1 0,f])).nx=o.nx:=n7;generalize O.set y (s3.nx+1) (ϵ [i,.slice s3.nx 0 1 1 0,f])=s8 at*;have s:=(lQ.trans LU V).trans Q (by intro q hq;simp at hq;omega);have aD:Sl s8 [] (.slice (s3.nx+1) 0 3 3 0) 1 [i,.slice s3.nx 0 1 1 0,f]:=.inr ⟨s3.nx+1,0,3,3,0,rfl,rfl,⟨hI _,.inl rfl⟩,.inr ⟨V,J,_,_,_,ai,V,rfl⟩⟩;have aF:Sl s8 [] (.slice s3.nx 0 1 1 0) 4 (ba (gU d)):=.inr ⟨s3.nx,0,1,1,0,rfl,rfl,⟨hI _,.inl rfl⟩,.inr ⟨V,J,_,_,_,aj,QV,rfl⟩⟩;have Vo:=(Q.keep Z.nx J xI).trans Jj;have I:=(Q.keep s1.nx J xI).trans XM;have ap:=(Q.keep s2.nx J xI).trans G;refine(EI (Ls:=[bL a.cells,ba (gU d),bL b.cells]) aD ⟨⟨e1.mono s,lM J⟩,⟨aF,1,rfl,J⟩,⟨e2.mono s,lM J⟩,gt⟩ V V).mono ?_;intro W p m9;have z:=m9.kp;have n9:=z.nx;have Ki:=(z.keep Z.nx J V).trans Vo;have H:=(z.keep s1.nx J V).trans I;have an:=(z.keep s2.nx J V).trans ap;have ah:=(z.keep (s3.nx+2) J V).trans D;have ad:=s.trans z V;simp only[Ki,H,lW,kc,io]
  have az:gY [(0,1,l),(1,1,j)] (cr 2 [.ae])=Φ [l,j]:=by
   rw[cW,gq ⟨⟨by rw[L];rfl,y1⟩,by rw[L];exact(by decide:0+1<=2)⟩,cW,gq ⟨⟨by rw[w3];rfl,w1⟩,by rw[w3,L];exact(by decide:1+1<=2)⟩,mi,L,w3];rfl
  rw[fY ah az,aP];have qP:Kp [s3.nx+2] p (O.set p (s3.nx+2) (Î [l,j])):=(Δ _ p).set _ (.inl V) J;have N0:(O.set p (s3.nx+2) (Î [l,j])).m.g (s3.nx+2)=Φ (Î [l,j]):=ao ..;have Po:(O.set p (s3.nx+2) (Î [l,j])).nx=p.nx:=rfl;have N:=ad.trans qP (by intro q hq;simp at hq;omega);obtain⟨F,a1,v,a3⟩:=m9;have Yd:Own (O.set p (s3.nx+2) (Î [l,j])) W 4 255 [bL a.cells,ba (gU d),bL b.cells].flatten F:=v.mono λq hq=>ar _ _ _ _ afm;have TI:(O.set p (s3.nx+2) (Î [l,j])).m.g Z.nx=_:=(ar _ _ _ _ J).trans Ki;have aI:(O.set p (s3.nx+2) (Î [l,j])).m.g s1.nx=_:=(ar _ _ _ _ J).trans H;have Mv:(O.set p (s3.nx+2) (Î [l,j])).m.g s2.nx=_:=(ar _ _ _ _ J).trans an;generalize O.set p (s3.nx+2) (Î [l,j])=ac at*;have aH:Sl ac [] (.slice (s3.nx+2) 0 2 2 0) 1 [l,j]:=.inr ⟨s3.nx+2,0,2,2,0,rfl,rfl,⟨hI _,.inl rfl⟩,.inr ⟨V,J,_,_,_,N0,V,rfl⟩⟩;refine(Qd (Ls:=[cR a.kids,cR b.kids]) aH ⟨⟨f1.mono N,a.kids.length,V,J⟩,⟨f2.mono N,b.kids.length,V,J⟩,gt⟩ V V).mono ?_;intro fT eo C;have P:=C.kp;have LI:=P.nx;have av:=(P.keep s2.nx J V).trans Mv;obtain⟨F2,b1,b2,Y⟩:=C;obtain⟨p1,p2⟩:=v.cI;have p3:=(v.sl (X:=[]) λb u=>⟨V,(a3 b u).2⟩).bM.1;obtain⟨q1,q2⟩:=b2.cI;have q3:=(b2.sl (X:=[]) λb u=>⟨V,(Y b u).2⟩).bM.1
  have ql:aR Þ [(1,1,W),(2,1,fT)] eo=.ok (.agg [Θ,W,fT]) eo:=by
   rw[eK];simp[cW,bC,p2,p3,q2,q3]
  rw[ql,af,aK,av,aU,aN,mL];refine⟨⟨rfl,by simp[p1,q1],V⟩,?_⟩;simp only[Vo,I,TI,aI,D,lW,kc,io,sE,and_true];rw[aG (n:=3) (ao ..) rfl,af];refine⟨(N.trans P V).set _ (.inr J) J,λX T=>⟨W,fT,?_,?_,?_⟩⟩
  .unfold dK;rw[B acX]
  .have:bL (dK a d b).cells=[bL a.cells,ba (gU d),bL b.cells].flatten:=by unfold dK;rw[B acX,iY];simp[bL]
   rw[this];have aw:=Yd.keep P λq hq=>⟨by have:=(a3 q hq).2;omega,V⟩;exact(aw.mono λq hq=>ar _ _ _ _ afm).sl λq hq=>⟨λh=>by have:=T q h;have:=(a3 q hq).1;have:=s.nx;omega,by have:=(a3 q hq).2;simp;omega⟩
  .have:cR (dK a d b).kids=[cR a.kids,cR b.kids].flatten:=by unfold dK;rw[B acX,pF];simp
   rw[this];exact(b2.mono λq hq=>ar _ _ _ _ (by have:=(Y q hq).1;omega)).sl λq hq=>⟨λh=>by have:=T q h;have:=(Y q hq).1;have:=N.nx;omega,by have:=(Y q hq).2;simp;omega⟩
end
section
variable {e k n i vb:Nat}{L T:δ K}{v:K}{z:δ K}{F:δ Nat}
section
variable {Z Z':O}
def mR (k e:Nat)(L:δ K)(F:δ Nat)(Z:O)(x:K)(Z':O):Prop:=∃F',Own Z' x k e L F'/\Kp F Z Z'/\∀b∈F',(b∈F\/Z.nx<=b)/\b<Z'.nx
def Em {b:Nat}(j:0<k)(l:Z.m.g b=Φ (.cells L e true))(c:Z.m.g vb=Φ (.cells T e false))(a:b≠vb)(p:L.length=n*k)(o:T.length=k)(hi:i<n)(f:n<=1000000)(d:bh L=θ)(r:bh T=θ):
 oC e k [.slice b 0 n n k,I i,.slice vb 0 1 1 0] Z=Φ (.ok (.slice Z.nx 0 (n+1) (n+1) k) ⟨(Z.m.put b ν).put Z.nx (Φ (.cells (L.take (i*k)++(T++L.drop (i*k))) e true)),Z.nx+1⟩):=by
 have q:oC e k [.slice b 0 n n k,I i,.slice vb 0 1 1 0] Z=oC e k [.slice b 0 n n k,I (.ofNat i),.slice vb 0 1 1 0] Z:=rfl;rw[q];simp only[oC,l,c];rw[gq ⟨gt,gt,j,hi,a,gt,gt,p,d,r,o,f⟩]
def zZ {e k n i b vb:Nat}{L T:δ K}(j:0<k)(a:b<Z.nx)(f:L.length=n*k)(d:T.length=k)(hi:i<n):mR k e (L.take (i*k)++(T++L.drop (i*k))) [b] Z (.slice Z.nx 0 (n+1) (n+1) k) ⟨(Z.m.put b ν).put Z.nx (Φ (.cells (L.take (i*k)++(T++L.drop (i*k))) e true)),Z.nx+1⟩:=by
 have o:i*k<=n*k:=zv k J;refine⟨[Z.nx],.inr (.inr ⟨Z.nx,n+1,rfl,J,?_,rfl,PT.du ..⟩),⟨V,λq l h2=>?_,λc q hq=>?_⟩,λq hq=>⟨.inr abf,by simp at hq;simp;omega⟩⟩
 .rw[km,km,pu,st,d,f,tx];omega
 .show((Z.m.put b ν).put Z.nx _).g q=_;rw[PT.dy _ _ _ _ J,PT.dy _ _ _ _ Vl]
 .show((Z.m.put b ν).put Z.nx _).g q=_;simp only at hq;rw[PT.dy _ _ _ _ J,PT.dy _ _ _ _ J];exact c q J
def NB {bytes:Nat}{g:Bool}{f:K->K->Prop}(p:Own Z v k e L F)(d:0<k)(q:L.length=n*k)(P:n<=1000000)(r:∀b∈F,b<Z.nx)(H:Z.m.g vb=Φ (.cells T e g))(hT:T.length=k)(Ke:bh T=θ)(c:k<=4)(a:bytes<=48):
 U (aQ k v (Φ (I n)) ν Z) λx1=>U (aY .slice (.slice vb 0 1 1 0) Z) λl=>U (R .eql ψ true l μ Z) λC=>aA C (mR k e (L++T) F Z v Z) (U (aY .slice v Z) λj=>U (R .eql ψ false (I n) j Z) λy=>
  aA y (E (bI e k bytes v (cZ .slice k z (.slice vb 0 1 1 0) Z) Z) λw D=>mR k e (L++T) F Z w D) (f l j)):=by
 have o:Sl Z [] v k L:=p.sl λb a=>⟨V,r b a⟩;obtain⟨v',G,_⟩:=o.lo d q (hI n) Z;have S:R .eql ψ true (ζ 1) μ Z=.ok Θ Z:=rfl;have Q:R .eql ψ false (I n) (I n) Z=.ok ι Z:=by rw[au,cn,jp rfl]
 have W:aY .slice (.slice vb 0 1 1 0) Z=.ok (ζ 1) Z:=rfl;rw[G,af,W,af,S,af,ag,B tW,o.len n q d Z,af,Q,af,ag,gq rfl,wm (k:=k) (n:=1) H J J];have N:=aOd P c;have M:(L.length+T.length)*(bytes+1)<=(4000004)*49:=aOd J J;obtain⟨x,s,F',a1,Y,X,u⟩:=p.append (n:=1) (bytes:=bytes) (T:=T) d J Ke r J;rw[a1,aP];exact⟨F',Y,X,λb a=>⟨(u b a).1.imp id λh=>J,(u b a).2⟩⟩
def nu (d:Own Z v k e L F)(a:0<k)(c:L.length=n*k)(f:0<n):∃b,v=.slice b 0 n n k/\F=[b]/\Z.m.g b=Φ (.cells L e true):=by
 have hp:=Nat.mul_pos f a;rcases d with⟨_,rfl,_⟩|⟨b,l,t,g,_,rfl,_⟩|⟨b,m,p,r,q,o,j⟩
 .simp at c;omega
 .simp at c;omega
 .have:m=n:=So a J;subst this;exact⟨b,p,o,j⟩
def IM (c:Own Z v 4 255 L F)(a:L.length=n*4)(q:n<=1000000)(r:∀b∈F,b<Z.nx)(p:Z.m.g vb=Φ (Ϛ T))(d:vb∉F)(f:T.length=4)(C:bh L=θ)(s:bh T=θ)(hi:i<=n):
 Rq0 183 [v,I i,.slice vb 0 1 1 0] Z (mR 4 255 (L.take (i*4)++(T++L.drop (i*4))) F Z):=by
 by_cases o:i<n
 .obtain⟨b,rfl,rfl,hb⟩:=nu c J a J;refine UN (Z':=_) (v:=_) (show I0 183 _ Z=Φ (.ok _ _)from ?_) (zZ (e:=255) (vb:=vb) J (r b V) a f o);have:I0 183 [.slice b 0 n n 4,I i,.slice vb 0 1 1 0] Z=oC 255 4 [.slice b 0 n n 4,I i,.slice vb 0 1 1 0] Z:=rfl;rw[this];exact Em J hb p (λe=>d (by simp[e])) a f o q C s
 .have:i=n:=by omega
  subst this;refine bE ?_ ?_
  .rw[agF];have y:L.take (i*4)=L:=lw J;have x:L.drop (i*4)=[]:=ys J;have w:mR 4 255 (L.take (i*4)++(T++L.drop (i*4))) F Z=mR 4 255 (L++T) F Z:=by rw[y,x,zo]
   rw[w];exact NB (bytes:=48) (z:=ϐ1) c J a q r p f s J J
  .by_cases h0:i=0
   .subst h0;rcases c with⟨rfl,_⟩|⟨b,l,t,g,rfl,_⟩|⟨b,m,rfl,D,u,_⟩
    .rfl
    .have j:∀args,I0 183 args Z=oC 255 4 args Z:=λargs=>rfl;rw[j];have:oC 255 4 [.slice b 0 0 0 0,ζ 0,.slice vb 0 1 1 0] Z=oC 255 4 [.slice b 0 0 0 0,I (.ofNat 0),.slice vb 0 1 1 0] Z:=rfl;rw[this];simp only[oC]
     split
     .rw[B J]
     .rfl
    .rw[u]at a;omega
   .obtain⟨b,rfl,rfl,hb⟩:=nu c J a J;have j:∀args,I0 183 args Z=oC 255 4 args Z:=λargs=>rfl;rw[j];have:oC 255 4 [.slice b 0 i i 4,I i,.slice vb 0 1 1 0] Z=oC 255 4 [.slice b 0 i i 4,I (.ofNat i),.slice vb 0 1 1 0] Z:=rfl;rw[this];simp only[oC]
    split
    .rw[B J]
    .rfl
def PA (c:Own Z v 1 3 L F)(a:L.length=n*1)(q:n<=1000000)(r:∀b∈F,b<Z.nx)(p:Z.m.g vb=Φ (Ϝ T))(d:vb∉F)(f:T.length=1)(C:bh L=θ)(s:bh T=θ)(hi:i<=n):
 Rq0 247 [v,I i,.slice vb 0 1 1 0] Z (mR 1 3 (L.take (i*1)++(T++L.drop (i*1))) F Z):=by
 by_cases o:i<n
 .obtain⟨b,rfl,rfl,hb⟩:=nu c J a J;refine UN (Z':=_) (v:=_) (show I0 247 _ Z=Φ (.ok _ _)from ?_) (zZ (e:=3) (vb:=vb) J (r b V) a f o);have:I0 247 [.slice b 0 n n 1,I i,.slice vb 0 1 1 0] Z=oC 3 1 [.slice b 0 n n 1,I i,.slice vb 0 1 1 0] Z:=rfl;rw[this];exact Em J hb p (λe=>d (by simp[e])) a f o q C s
 .have:i=n:=by omega
  subst this;refine bE ?_ ?_
  .rw[agB];have y:L.take (i*1)=L:=lw J;have x:L.drop (i*1)=[]:=ys J;have w:mR 1 3 (L.take (i*1)++(T++L.drop (i*1))) F Z=mR 1 3 (L++T) F Z:=by rw[y,x,zo]
   rw[w];exact NB (bytes:=8) (z:=[μ]) c J a q r p f s J J
  .by_cases h0:i=0
   .subst h0;rcases c with⟨rfl,_⟩|⟨b,l,t,g,rfl,_⟩|⟨b,m,rfl,D,u,_⟩
    .rfl
    .have j:∀args,I0 247 args Z=oC 3 1 args Z:=λargs=>rfl;rw[j];have:oC 3 1 [.slice b 0 0 0 0,ζ 0,.slice vb 0 1 1 0] Z=oC 3 1 [.slice b 0 0 0 0,I (.ofNat 0),.slice vb 0 1 1 0] Z:=rfl;rw[this];simp only[oC]
     split
     .rw[B J]
     .rfl
    .rw[u]at a;omega
   .obtain⟨b,rfl,rfl,hb⟩:=nu c J a J;have j:∀args,I0 247 args Z=oC 3 1 args Z:=λargs=>rfl;rw[j];have:oC 3 1 [.slice b 0 i i 1,I i,.slice vb 0 1 1 0] Z=oC 3 1 [.slice b 0 i i 1,I (.ofNat i),.slice vb 0 1 1 0] Z:=rfl;rw[this];simp only[oC]
    split
    .rw[B J]
    .rfl
def Oh {bytes:Nat}(ho:Own Z v k e L F)(hk:0<k)(q:L.length=n*k)(hn:n<=1000000)(hF:∀b∈F,b<Z.nx)(hz:z.length=k)(G:bh z=θ)(PK:bh L=θ)(hi:i<n):
 U (aY .slice v Z) λx1=>U (jK k v (Φ (I i)) (ζ (i+1)) x1 Z) λx2=>U (R .eql ψ false (I i) (ζ (i+1)) Z) λx3=>aA x3 False
  (U (aY .slice v Z) λx4=>bJ (U (aQ k v ν (Φ (I i)) Z) λx5=>U (aQ k v (Φ (ζ (i+1))) ν Z) λx6=>E (bI e k bytes x5 (cZ .slice k z x6 Z) Z) λr c=>(True)/\(True)/\
   U (aY .slice r c) λx8=>U (aQ k r (Φ x8) (Φ x4) c) λx9=>E (pZ z x9 c) λ_ s2=>(mP s2 F r k (L.take (i*k)++L.drop ((i+1)*k))/\Kp F Z s2/\s2.nx=Z.nx))):=by
 obtain⟨b,rfl,rfl,P⟩:=nu ho hk q J;have vu:=hF b V;have e1:aY .slice (.slice b 0 n n k) Z=.ok (I n) Z:=rfl
 have W:∃y,jK k (.slice b 0 n n k) (Φ (I i)) (ζ (i+1)) (I n) Z=.ok y Z:=by
  unfold jK;dsimp only;rw[vK,gq (hI _)];dsimp only;rw[rY,gq ⟨J,J⟩];simp only[dR,aS,xF,nR,md];rw[gq (.inr J)]
  split<;>exact⟨_,rfl⟩
 obtain⟨y,W⟩:=W;have e3:R .eql ψ false (I i) (ζ (i+1)) Z=.ok Θ Z:=GW
 have I6:i*k+k<=n*k:=by
  calc i*k+k=(i+1)*k:=by rw[tx,Li]
   _<=n*k:=zv k hi
 have ad:(i+1)*k=i*k+k:=by rw[tx,Li]
 have Dk:(n-1)*k+k=n*k:=by
  have:(n-1)*k+k=(n-1+1)*k:=by rw[tx,Li]
  rw[this];congr 1;omega
 have ac:(n-(i+1))*k=n*k-(i+1)*k:=Nat.sub_mul _ _ _
 have U7:n-(i+1)=0->i*k=(n-1)*k/\i=n-1:=λh=>by have:i=n-1:=by omega
                                               subst this;exact⟨rfl,rfl⟩
 obtain⟨o5,p5,q5⟩:=kL (k:=k) (b:=b) (off:=0) (len:=n) (cap:=n) (grow:=k) (l:=0) (h:=i) (lo:=ν) (hi:=Φ (I i)) (Z:=Z) afD (hI _) (.inr rfl);have:o5=0:=J
 subst this;obtain⟨f,p6,q6⟩:=kL (k:=k) (b:=b) (off:=0) (len:=n) (cap:=n) (grow:=k) (l:=i+1) (h:=n) (lo:=Φ (ζ (i+1))) (hi:=ν) (Z:=Z) (by rw[vI,gq J]) (hI _) (.inr rfl);simp only[Nat.sub_zero]at p5;simp only[e1,W,e3,ll,ii,aZ,p5,p6];have h9:=λC=>kL (k:=k) (b:=b) (off:=0) (len:=n-1) (cap:=n) (grow:=k) (l:=n-1) (h:=n) (lo:=Φ (ζ (n-1))) (hi:=Φ (I n)) (Z:=O.set Z b (.cells C e true)) (by rw[rY,gq ⟨J,J⟩]) J (.inr rfl);have j:∀(l:δ K) (off:Nat) (t:δ K),off+t.length<=l.length->eB l off t=Φ (bC l off t):=λl off t h=>by unfold eB;rw[gq h];rfl
 generalize hA:i*k=Aq0 at*;generalize hB:(i+1)*k=Bq0 at*;generalize hN:n*k=N at*;generalize S:(n-1)*k=M at*;generalize hD:(n-(i+1))*k=D at*
 have hT:cZ .slice k z (.slice b f (n-(i+1)) (n-(i+1)) k) Z=Φ (n-(i+1),L.drop Bq0):=by
  have e':cZ .slice k z (.slice b f (n-(i+1)) (n-(i+1)) k) Z=(match dW k (n-(i+1)) (.slice b f (n-(i+1)) (n-(i+1)) k) Z with|some s=>Φ (n-(i+1),s)|none=>ν):=rfl;rw[e',nh]
  by_cases d:n-(i+1)=0
  .rw[gq d];have:=U7 d;have:L.drop Bq0=[]:=ys J;rw[this]
  .rw[B d,gq (.inr (hI _)),P,hD];have H:f=Bq0:=by omega
   have:iv L f D=Φ (L.drop Bq0):=by
    unfold iv;rw[gq J,H,lw Yr]
   dsimp only;rw[this]
 have Gy:(L.drop Bq0).length=N-Bq0:=by rw[st,q]
 have Q:bh (L.drop Bq0)=θ:=by
  simp only[bh,ù]at PK⊢;exact λx hx=>PK x (zR hx)
 have Tu:∃c C,bI e k bytes (.slice b 0 i n k) (Φ (n-(i+1),L.drop Bq0)) Z=.ok (.slice b 0 (n-1) n k) c/\c=O.set Z b (.cells C e true)/\C.length=N/\C.take M=L.take Aq0++L.drop Bq0:=by
  by_cases d:n-(i+1)=0
  .obtain⟨w,u⟩:=U7 d;have hd:L.drop Bq0=[]:=ys J;refine⟨O.set Z b (.cells L e true),L,?_,rfl,q,by rw[hd,w];simp⟩;rw[d,hd];have e':bI e k bytes (.slice b 0 i n k) (Φ (0,[])) Z=bF (Nat.ble i n) (.ok (.slice b 0 i n k) Z) .bad:=rfl
   have es:O.set Z b (.cells L e true)=Z:=by
    cases Z with
    |mk mem nx=>
     simp only[O.set,O.mk.injEq,and_true]
     exact PT.ext λp=>by
      rw[PT.fw];split
      .rename_i h;rw[h];exact P.symm
      .rfl
   rw[e',aS,gq ô,es,<-u]
  .refine⟨_,bC L Aq0 (L.drop Bq0),?_,rfl,?_,?_⟩
   .unfold bI;simp only[aS,md,dR,nR];have ab:Nat.add i (n-(i+1))=n-1:=by show i+(n-(i+1))=n-1;omega
    rw[B d,ab,gq J,P];dsimp only;rw[Q,gq rfl,hA,oa,j _ _ _ J];rfl
   .rw[om _ _ _ J];exact q
   .unfold bC;rw[WF,lw (i:=M) (l:=L.take Aq0) OH,pu,WF];have Mf:=us J;have:M-min Aq0 L.length-(L.drop Bq0).length=0:=by omega
    rw[this,S6,zo,lw (i:=M-min Aq0 L.length) (l:=L.drop Bq0) J]
 obtain⟨c,C,h1,rfl,h3,h4⟩:=Tu;have e7:aY .slice (.slice b 0 (n-1) n k) (O.set Z b (.cells C e true))=.ok (ζ (n-1)) (O.set Z b (.cells C e true)):=rfl;obtain⟨a,p9,q9⟩:=h9 C;have:a=M:=J
 subst this;have Od:n-(n-1)=1:=J
 rw[Od]at p9
 have XS:pZ z (.slice b a 1 1 k) (O.set Z b (.cells C e true))=.ok .undef (O.set Z b (.cells (bC C a z) e true)):=by
  have e':pZ z (.slice b a 1 1 k) (O.set Z b (.cells C e true))=bF (Nat.beq 1 0) (.ok .undef (O.set Z b (.cells C e true))) (bF (Bool.or (Nat.beq k 0) (Nat.ble 1 1))
   (match (O.set Z b (.cells C e true)).m.g b with
   |some (.cells s ty g)=>(λt=>bF (bh t) (Option.rec .bad (λs'=>.ok .undef ⟨(O.set Z b (.cells C e true)).m.put b (Φ (.cells s' ty g)),(O.set Z b (.cells C e true)).nx⟩) (eB s a t)) .bad) (cr 1 z)
   |_=>.bad) .bad):=rfl
  rw[e',ao];have er:cr 1 z=z:=by simp[cr]
  dsimp only;rw[er,G,j _ _ _ J];have aa:Bool.or (Nat.beq k 0) (Nat.ble 1 1)=θ:=V
  have Y:Nat.beq 1 0=φ:=rfl;rw[aa,Y];show OR.ok K.undef (O.set (O.set Z b (.cells C e true)) b (.cells (bC C a z) e true))=_;rw[set_set]
 rw[hT,h1];simp only[aP,e7,af,p9,XS,sE];have Dm:Kp [b] Z (O.set Z b (.cells (bC C a z) e true)):=(Δ _ Z).set _ (.inl V) vu;have o:(L.take Aq0++L.drop Bq0).length=(n-1)*k:=by rw[<-h4,pu,S];omega
 refine⟨λX hX=>?_,Dm,rfl⟩;refine .inr ⟨b,0,n-1,n,k,rfl,o,⟨J,.inr rfl⟩,.inr ⟨hX b V,vu,_,_,_,ao ..,?_,?_⟩⟩
 .rw[om _ _ _ J,S];omega
 .rw[tu,S,<-h4];unfold bC;rw[WF,lw (i:=a) (l:=C.take a) OH,pu];have Mf:=us J;have:a-min a C.length=0:=by omega
  rw[this];simp
def Ju (c:Own Z v 4 255 L F)(f:L.length=n*4)(d:n<=1000000)(g:∀b∈F,b<Z.nx)(m:bh L=θ)(hi:i<n):
 Rq0 176 [v,I i,ζ (i+1)] Z λx s2=>mP s2 F x 4 (L.take (i*4)++L.drop ((i+1)*4))/\Kp F Z s2/\s2.nx=Z.nx:=by
 refine bE ?_;rw[apT];have:=Oh (bytes:=48) (z:=ϐ1) c J f d g rfl rfl m hi;refine mC this λq l=>mC l λp j=>mC j λo a=>?_;unfold aA at a⊢
 split at a
 .exact a.elim
 .exact a
 .exact a
def Qb (c:Own Z v 1 3 L F)(f:L.length=n*1)(d:n<=1000000)(g:∀b∈F,b<Z.nx)(m:bh L=θ)(hi:i<n):
 Rq0 218 [v,I i,ζ (i+1)] Z λx s2=>mP s2 F x 1 (L.take (i*1)++L.drop ((i+1)*1))/\Kp F Z s2/\s2.nx=Z.nx:=by
 refine bE ?_;rw[apo];have:=Oh (bytes:=8) (z:=[μ]) c J f d g rfl rfl m hi;refine mC this λq l=>mC l λp j=>mC j λo a=>?_;unfold aA at a⊢
 split at a
 .exact a.elim
 .exact a
 .exact a
end
end
