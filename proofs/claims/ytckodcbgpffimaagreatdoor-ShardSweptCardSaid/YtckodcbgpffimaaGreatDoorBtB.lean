import Derived.Test.YtckodcbgpffimaaGreatDoorBtA
namespace Lim
open Go
noncomputable section
set_option linter.defProp false
set_option maxRecDepth 100000
section
variable {τ:Nat} {π:PI} {Z Z':O} {G:GM}
def FJ {d:δ Γ}{lo hi:Nat}(b:lo<=hi)(a:hi<=d.length)(s:O):gj (.str d) (Φ (I lo)) (Φ (I hi)) s=.ok (.str ((d.drop lo).take (hi-lo))) s:=by
 unfold gj;dsimp only;rw[rY,gq ⟨b,a⟩]
structure aeR (G G':GM)(c:dq)(v:List UInt8)(pc:List Nat):Prop where
 ok:wb G'
 val:Cw G' c v pc
 len:pc.length=bO v.length
 nd:pc.Nodup
 new:∀x∈pc,¬G.bV x
 kept:∀qs,(∀x∈qs,G.bV x)->Kept G G' qs
 root:G'.root=G.root
 free:G'.bT+bO v.length=G.bT
 aO:G'.aO=G.aO
 eu:G'.eu.length<=G.eu.length+bO v.length
structure aeQ (τ:Nat)(π:PI)(Z:O)(G:GM)(v:List UInt8)(x8:Nat)(j:Nat)(s:O)(G':GM)(Nc:List Nat)(sr:Nat):Prop where
 tg:Tg τ π s G'
 g8:s.m.g x8=some (.cells [I sr] 3 false)
 chain:qY G' Nc sr (v.drop (j*480))
 len:Nc.length+j=(v.length+479)/480
 nd:Nc.Nodup
 new:∀x∈Nc,¬G.bV x
 kept:∀qs,(∀x∈qs,G.bV x)->Kept G G' qs
 root:G'.root=G.root
 free:G'.bT+Nc.length=G.bT
 aO:G'.aO=G.aO
 kp:Kp (x8::π.W) Z s
 eu:G'.eu.length<=G.eu.length+Nc.length
def Rc (h:Tg τ π Z G){key v:δ Γ}(hk:key.length<=48)(hv:v.length<=8192)(hf:bO v.length<=G.bT):Rq0 180 [.ptr τ 0,.str key,.str v] Z λx Z'=>Kp π.W Z Z'/\∃c G' pc,x=.tuple [.agg (ba c),μ]/\c.key=key/\c.ok true/\aeR G G' c v pc/\Tg τ π Z' G':=by
 refine bE ?_;rw[apP];rw[bz,HH];refine⟨rfl,?_⟩;have k1:Kp [] Z (O.new Z (Ê [.ptr τ 0])):=(Δ [] Z).new _;have g1:(O.new Z (Ê [.ptr τ 0])).m.g Z.nx=Φ (Ê [.ptr τ 0]):=ay _ _;have n1:(O.new Z (Ê [.ptr τ 0])).nx=Z.nx+1:=rfl;generalize O.new Z (Ê [.ptr τ 0])=s1 at*;have k2:Kp [] s1 (O.new s1 (Ϛ ϐ1)):=(Δ [] s1).new _;have g2:(O.new s1 (Ϛ ϐ1)).m.g s1.nx=Φ (Ϛ ϐ1):=ay _ _;have n2:(O.new s1 (Ϛ ϐ1)).nx=s1.nx+1:=rfl;rw[bW,aP];generalize O.new s1 (Ϛ ϐ1)=s2 at*;have lV:=(k2.keep Z.nx J V).trans g1;have S:=k1.trans k2 V;have t2:=h.still S;rw[eN,af];refine(FH (n:=v.length) J).same ?_
 by_cases L:v.length<=64
 .have l:bO v.length=0:=by unfold bO;rw[gq L]
  have e1:R .eql ψ true (I (bO v.length)) μ s2=.ok ι s2:=by rw[l];rfl
  have Q:aR ϐ1 [(0,1,.str key),(1,1,.str v)] s2=.ok (.agg (ba ⟨key,v,0,0⟩)) s2:=rfl;have D:bC ϐ1 0 (ba ⟨key,v,0,0⟩)=ba ⟨key,v,0,0⟩:=db _ _ rfl;rw[e1,af,ag,gq rfl,Q,af,aK,g2,aU,aN,D];refine⟨⟨rfl,rfl,V⟩,?_⟩;rw[aG (n:=4) (ao ..) rfl,af];have C:Kp [s1.nx] s2 (O.set s2 s1.nx (Ϛ (ba ⟨key,v,0,0⟩))):=(Δ _ s2).set _ (.inl V) J;refine⟨(S.mono V).set _ (.inr J) J,⟨key,v,0,0⟩,G,[],rfl,rfl,⟨hk,λh=>(by cases h),λ_ _=>⟨rfl,L⟩,λ_ h=>absurd rfl h⟩,⟨h.pg.Z7,.inl ⟨rfl,rfl,rfl⟩,by rw[l];rfl,V,V,λqs _ q _=>⟨id,rfl⟩,rfl,by rw[l];rfl,rfl,Nat.le_add_right _ _⟩,t2.yu C λb u=>?_⟩;simp at u;subst u;exact⟨λhh=>afd,λe=>abg⟩
 .have l:bO v.length=(v.length+479)/480:=by unfold bO;rw[B L]
  have e1:R .eql ψ true (I (bO v.length)) μ s2=.ok Θ s2:=GW
  rw[e1,af,ag,B tW]
  have SL:∀z:K->O->Prop,(E (cK 3 [μ] s2) λx8 s5=>E (aJ 1 x8 μ s5) λ_ s6=>z x8 s6)=z (.ptr s2.nx 0) (O.new s2 (Ϝ [ζ 0])):=by
   intro z;have D:bC [μ] 0 [μ]=[ζ 0]:=rfl;rw[bW,aP,aK,ay,aU,jR,Fm,D];simp
  rw[SL];have C:Kp [] s2 (O.new s2 (Ϝ [ζ 0])):=(Δ [] s2).new _;have g3:(O.new s2 (Ϝ [ζ 0])).m.g s2.nx=Φ (Ϝ [ζ 0]):=ay _ _;have n3:(O.new s2 (Ϝ [ζ 0])).nx=s2.nx+1:=rfl;generalize O.new s2 (Ϝ [ζ 0])=s3 at*;have lQ:=S.trans C V;have mW:=(C.keep Z.nx J V).trans lV;have yV:=(C.keep s1.nx J V).trans g2;have t3:=t2.still C;have sX:=h.Vp;have P:∀b,Z.nx<=b->b∉π.all/\b≠τ:=λb u=>⟨λhh=>afb,λe=>abg⟩;have H:∀b,Z.nx<=b->b∉π.W:=λb u hh=>by have:=sX b hh;omega
  rw[ju,af,bU];have Y:R .sub ν true (I (bO v.length)) ϖ s3=.ok (I ((bO v.length:Int)-1)) s3:=afl
  rw[Y,af];simp only[ke];rw[l]
  refine bD (λfu vs s=>vs=[.str key,.str v,.ptr s1.nx 0,.ptr s2.nx 0,.func (.func 220) [] [.ptr Z.nx 0,.ptr s2.nx 0],I ((fu:Int)-1)]/\∃G' Nc f,aeQ τ π s3 G v s2.nx fu s G' Nc f) ?_ (n:=(v.length+479)/480)
   ⟨rfl,G,[],0,⟨t3,g3,⟨rfl,ys J⟩,V,V,V,λqs _ q _=>⟨id,rfl⟩,rfl,rfl,rfl,Δ _ _,hI _⟩⟩
  rintro fu vs s k ⟨rfl,G',Nc,f,a⟩ next;have IQ:=a.kp.nx;have X:=(a.kp.keep Z.nx J (by simp only[ip,rt];exact⟨J,H _ (hI _)⟩)).trans mW;have T:=(a.kp.keep s1.nx J (by simp only[ip,rt];exact⟨J,H _ J⟩)).trans yV;have hlen:=a.len;simp only[ke]
  by_cases hc:0<fu
  .obtain⟨j,rfl⟩:∃j,fu=j+1:=⟨fu-1,J⟩;have ei:(((j+1:Nat):Int)-1)=((j:Nat):Int):=by omega
   rw[ei];have ab:j*480<v.length:=J
   have a1:R .geq ν true (I j) μ s=.ok ι s:=by rw[au,rM,jp J]
   have a2:R .mul ν true (I j) (I 480) s=.ok (ζ (j*480)) s:=MR
   have a3:R .mul ν true (ζ (j+1)) (I 480) s=.ok (ζ ((j+1)*480)) s:=MR
   have a4:Bk false (I v.length) (ζ ((j+1)*480)) s=.ok (ζ (min v.length ((j+1)*480))) s:=by
    have e:Bk false (I v.length) (ζ ((j+1)*480)) s=.ok (I (if (((j+1)*480:Nat):Int)<(v.length:Int)then (((j+1)*480:Nat):Int)else (v.length:Int))) s:=rfl;rw[e];congr 2;split<;>omega
   have a5:=FJ (d:=v) (lo:=j*480) (hi:=min v.length ((j+1)*480)) J J s
   have Xz:(v.drop (j*480)).take (min v.length ((j+1)*480)-j*480)=(v.drop (j*480)).take 480:=by
    by_cases hm:(j+1)*480<=v.length
    .rw[Nat.min_eq_right hm];congr 1;omega
    .rw[us J,lw Yr,lw Yr]
   rw[Xz]at a5;rw[a1,af,ag,gq rfl];simp only[a2,af,eN,fV j J,a3,a4,a5,dv,ow,ut]
   have BU:0<G'.bT:=by
    have:=a.free;rw[l]at hf;omega
   have Dj:f<=kj:=by
    have w:=a.chain;cases Nc with
    |nil=>obtain⟨rfl,_⟩:=w;exact sw _
    |cons p pr=>obtain⟨rfl,_,r,_⟩:=w;exact tZ a.tg.pg.Z7 r
   have i:=vL a.tg.pg.Z7 BU;refine(abO a.tg BU X a.g8 J J (P _ (hI _)).1 (P _ J).1 (P _ J).2 J (d:=(v.drop (j*480)).take 480) OH Dj).mono ?_;rintro _ M ⟨rfl,N,t9,g9⟩;have e5:R .neq ψ true μ μ M=.ok Θ M:=rfl;have e6:R .sub ν true (I j) ϖ M=.ok (I ((j:Int)-1)) M:=afl
   simp only[e5,ll,ii,e6];have aa:=a.chain.aO;have Vc:G'.dI∉Nc:=λhh=>i.not (aa _ hh);have yA:(v.drop (j*480)).drop 480=v.drop ((j+1)*480):=by rw[aOe];congr 1;omega
   refine next j _ _ J ⟨rfl,G'.alloc.put G'.dI (.dX f ((v.drop (j*480)).take 480)),G'.dI::Nc,G'.dI,t9,g9,⟨rfl,?_,(i.bV _).2 (.inr rfl),f,nZ ..,Dj,?_⟩,by rw[lx];omega,me.2 ⟨Vc,a.nd⟩,?_,?_,i.root.trans a.root,?_,i.aO.trans a.aO,a.kp.trans N (lk),by have:=Ox G' (.dX f ((v.drop (j*480)).take 480));have:=a.eu;rw[lx];omega⟩
   .intro e;have:=congrArg List.length e;rw[st]at this;simp at this;omega
   .rw[yA];exact a.chain.kept ((wY i Vc).trans (mJ Vc))
   .intro x hx;rcases ip.1 hx with rfl|hx
    .intro r;have:=((a.kept [G'.dI] (by simpa using r)) G'.dI V).1 r;exact i.not this
    .exact a.new x hx
   .intro qs F;have h1:=a.kept qs F;have o:G'.dI∉qs:=λhh=>i.not ((h1 _ hh).1 (F _ hh));exact(h1.trans (wY i o)).trans (mJ o)
   .have h1:=i.free;have h2:=a.free;rw[lx];show G'.alloc.bT+_=_;omega
  .have ZF:fu=0:=by omega
   subst ZF;have a1:R .geq ν true (I (((0:Nat):Int)-1)) μ s=.ok Θ s:=rfl;have Q:aR ϐ1 [(0,1,.str key),(2,1,I f),(3,1,I v.length)] s=.ok (.agg (ba ⟨key,[],f,v.length⟩)) s:=rfl;have D:bC ϐ1 0 (ba ⟨key,[],f,v.length⟩)=ba ⟨key,[],f,v.length⟩:=db _ _ rfl;rw[a1,af,ag,B tW,av,a.g8,ak,io,an,eN,af,Q,af,aK,T,aU,aN,D];refine⟨⟨rfl,rfl,V⟩,?_⟩;rw[aG (n:=4) (ao ..) rfl,af];have N:Kp [s1.nx] s (O.set s s1.nx (Ϛ (ba ⟨key,[],f,v.length⟩))):=(Δ _ s).set _ (.inl V) J;have w:=a.chain;rw[Nat.zero_mul,tu]at w
   have y:f≠0/\f<=kj:=by
    cases Nc with
    |nil=>obtain⟨_,h2⟩:=w;rw[h2]at L;simp at L
    |cons p pr=>obtain⟨rfl,_,r,_⟩:=w;exact⟨by have:=r.1;omega,tZ a.tg.pg.Z7 r⟩
   refine⟨((lQ.mono V).trans a.kp λq o=>?_).trans N (by intro q o;simp at o;right;omega),⟨key,[],f,v.length⟩,G',Nc,rfl,rfl,⟨hk,λh=>(by cases h),λ_ h=>absurd h y.1,λ_ _=>⟨rfl,y.2,by show 1<=v.length;omega,by show v.length<=2147483647;omega⟩⟩,⟨a.tg.pg.Z7,.inr ⟨y.1,rfl,J,hv,w⟩,by rw[l,<-hlen];rfl,a.nd,a.new,a.kept,a.root,by rw[l,<-a.free];omega,a.aO,by have:=a.eu;rw[l];omega⟩,a.tg.yu N λb u=>?_⟩
   .rcases ip.1 o with rfl|o
    .right;omega
    .exact .inl o
   .simp at u;subst u;exact P _ J
end
section
variable {τ:Nat} {π:PI} {Z Z':O} {G:GM}
def gI.len {X:δ Nat}{x:K}{l:δ dh}(h:gI Z X x l)(s:O):aY .slice x s=.ok (I l.length) s:=by
 obtain⟨c,a,b⟩:=h;rw[a.len c.length (dU b.w) J s,b.len]
def gI.row {X:δ Nat}{x:K}{l:δ dh}(h:gI Z X x l){i:Nat}(hi:i<l.length):∃g f,Sl Z X g 4 (bL l[i].n.cells)/\Sl Z X f 1 (cR l[i].n.kids)/\∀Q:K->Prop,Q (.agg [I l[i].page,I l[i].at_,.bool l[i].n.leaf,g,f])->Lim.fj 5 5 x (I i) Z Q:=by
 obtain⟨j,a,b⟩:=h;obtain⟨m,g,f,e,c,d⟩:=b.at hi;refine⟨g,f,c,d,λQ k=>?_⟩;refine a.fj J b.w m Q ?_;rw[e];exact k
def xu.size {key:bS}{f:dh}{a:δ dh}{L:δ aT}(h:xu G key f a L):f.n.cells.length<=512/\f.n.ok/\f.n.leaf=θ/\f.at_=f.n.find key/\f.at_<=f.n.cells.length:=by
 obtain⟨lo,hi,m,l,Lm,ps,q,k,c,d,j,i,g,e,b⟩:=h;have:=fD f.n.leaf f.n.cells;have hs:=c.size;rw[cq]at hs;exact⟨J,c.ok,d.leaf,b,by rw[b];exact aNt⟩
def qG {s:O}{p a:Nat}{leaf:Bool}{d c:K}{b:K->O->Prop}(g:cI d=θ)(f:cI c=θ)(e:b (.ptr s.nx 0) (O.new s (ϝ [I p,I a,.bool leaf,d,c]))):
 E (cK 293 ϐ7 s) λx s2=>E (aJ 5 x (.agg [I p,I a,.bool leaf,d,c]) s2) λ_ s3=>b x s3:=gW rfl rfl (by simp[g,f]) e
def adW (h:Tg τ π Z G){L:δ aT}(Q:gQ G L)(key:bS):Rq0 121 [.ptr τ 0,.str key] Z λx Z'=>Kp [] Z Z'/\x=if 48<key.length then .tuple [ϑ,Θ,I 1]else .tuple [.str ((ey L key).getD []),.bool (ey L key).isSome,μ]:=by
 refine bE ?_;rw[aqK];have e0:R .gtr ν true (I key.length) (I 48) Z=.ok (.bool (decide (48<key.length))) Z:=yZ
 rw[cc,af,ag,B tW,eN,af,e0,af,ag]
 by_cases r:48<key.length
 .rw[jp r,gq rfl,gq r];exact⟨Δ _ _,rfl⟩
 .rw[jo r,B tW,B r];refine(FG h Q key).mono ?_;rintro _ s1 ⟨y,x,rfl,hx⟩;have t1:=h.still y;have e1:R .neq ψ true μ μ s1=.ok Θ s1:=rfl;simp only[DK,e1,aD,yU,ii,tw];rcases hx with⟨vq,rfl⟩|⟨f,a,S,⟨BJ,L7⟩,z⟩
  .have hL:L=[]:=by
    rcases Q.tree with h|⟨hh,ps,_,hs⟩
    .exact h.2.1
    .obtain⟨n,q,hn,_⟩:=hs;have:=hn.bV.1;omega
   subst hL;have D:R .eql ψ true μ μ s1=.ok ι s1:=rfl;simp only[oh,D,aC,ii,ll,ix];exact⟨y,rfl⟩
  .obtain⟨qS,BM,il,mz,Mq⟩:=S.size;have Y:=z [] V;have Au:(a.reverse++[f]).length=a.length+1:=by simp
   have hlen:=Y.len s1;rw[Au]at hlen;have D:R .eql ψ true (ζ (a.length+1)) μ s1=.ok Θ s1:=GW
   have W:=CX (a.length+1) J J s1 ν;rw[Pi]at W;obtain⟨k,j,F,X,P⟩:=Y.row (i:=a.length) V;have hf:(a.reverse++[f])[a.length]'(by simp)=f:=V
   rw[hf]at F X P;simp only[hlen,D,aC,ii,ll,W];refine P _ ?_;refine qG F.bM.2.1 X.bM.2.1 ?_;have v:Kp [] s1 (O.new s1 (ϝ [I f.page,I f.at_,.bool f.n.leaf,k,j])):=(Δ [] s1).new _;have T:(O.new s1 (ϝ [I f.page,I f.at_,.bool f.n.leaf,k,j])).m.g s1.nx=Φ (ϝ [I f.page,I f.at_,.bool f.n.leaf,k,j]):=ay _ _;generalize O.new s1 (ϝ [I f.page,I f.at_,.bool f.n.leaf,k,j])=s3 at*;have t3:=t1.still v;have H:=F.mono v;have u:=y.trans v V;obtain⟨lo,hi,Ll,Lr,ps,Lt,pt,Ld,pd,C⟩:=S.Gc;have e4:R .eql ψ false (I f.at_) (I f.n.cells.length) s3=.ok (.bool (decide (f.at_=f.n.cells.length))) s3:=CU
   simp only[fl,ly,T,Nat.reduceAdd,kc,io,H.len f.n.cells.length (bN _) J s3,e4]
   by_cases M:f.at_=f.n.cells.length
   .obtain⟨_,s,_⟩:=C.IJ (λc d=>by rw[M,In (hI _)]at d;cases d);rw[jp M,s];simp only[ii,xk,gG,je,ix];exact⟨u,rfl⟩
   .have hlt:f.at_<f.n.cells.length:=by omega
    rw[jo M];obtain⟨b,p,l,t,g,q1,q2,q3,q4,q5⟩:=H.cellAt (L:=f.n.cells.map ba) J (gH _) (i:=f.at_) OF;have N:=q5 0 (.str f.n.cells[f.at_].key) QV;rw[rc]at N;simp only[ii,gG,je,vr,T,rc,Nat.reduceAdd,kc,io,q1,q2,N,fG,um,GT]
    by_cases o:f.n.cells[f.at_].key=key
    .obtain⟨w,po,yQ,CL,v1,v2,v3,v4,v5,v6⟩:=C.found (li hlt) o;rw[jp o,r8,B tW];refine H.fj (L:=f.n.cells.map ba) J (gH _) OF _ ?_;have e:(f.n.cells.map ba)[f.at_]'(by simpa using hlt)=ba f.n.cells[f.at_]:=by simp
     rw[e];have CO:=BM.cell _ (mp hlt);rw[il]at CO;refine(Hp t3 CO v1).mono ?_;rintro _ s4 ⟨rfl,k4⟩;have e5:R .eql ψ true μ μ s4=.ok ι s4:=rfl;simp only[u6,e5];rw[v6];exact⟨u.trans k4 V,rfl⟩
    .obtain⟨_,s,_⟩:=C.IJ (λc d=>by rw[li hlt]at d;cases d;exact o);rw[jo o,ra,gq rfl,s];exact⟨u,rfl⟩
end
section
variable {X:δ Nat}{v:K}{n:bp}{m:Nat}{x:K}{s:O}{vc vk:K}
section
variable {τ:Nat} {π:PI} {Z Z':O} {G:GM}
def Sl.FD {k n:Nat}{L:δ K}(j:Sl Z X v k L)(f:0<k)(d:L.length=n*k)(o:0<n)(l:m<=n)(s:O):∃v',jK k v ν (I m) (I m) s=.ok v' s/\Sl Z X v' k (L.take (m*k)):=by
 rcases j with⟨rfl,rfl⟩|⟨b,off,len,cap,grow,rfl,w,F,i⟩
 .have:=Nat.mul_pos o f;simp at d;omega
 .have:len=n:=So f (by rw[<-w,d]);subst this;have C:=zv k l
  have e:jK k (.slice b off len cap grow) ν (I m) (I m) s=(if m=0 then .ok (.slice b off 0 0 0) s else .ok (.slice b off m m 0) s):=by
   unfold jK;dsimp only;rw[vK,gq J];dsimp only;rw[vJ,gq (hI _)];simp only[dR,aS,xF,nR,md];rw[gq (.inr J)];have z:Nat.sub m 0=m:=rfl;have y:Nat.add off (Nat.mul 0 k)=off:=V
   rw[z,y]
   by_cases a:m=0
   .rw[gq a,gq a,a]
   .rw[B a,B a]
  rw[e]
  by_cases a:m=0
  .subst a;exact⟨_,by rw[gq rfl],.inr ⟨b,off,0,0,0,rfl,V,⟨hI _,.inl rfl⟩,.inl rfl⟩⟩
  .rw[B a];refine⟨_,rfl,.inr ⟨b,off,m,m,0,rfl,OH,⟨hI _,.inl rfl⟩,?_⟩⟩;rcases i with i|⟨u,r,c,t,g,q,D,p⟩
   .omega
   .exact .inr ⟨u,r,c,t,g,q,J,by rw[<-p,AQ,us C]⟩
def eh.take {a:δ (δ K)}{l:δ dh}(h:eh Z X a l)(i:Nat):eh Z X (a.take i) (l.take i):=by
 induction a generalizing l i with
 |nil=>cases l with|nil=>simp[eh]|cons s l=>exact h.elim
 |cons r a b=>cases l with
  |nil=>exact h.elim
  |cons s l=>cases i with
   |zero=>trivial
   |succ i=>exact⟨h.1,b h.2 i⟩
def gI.FD {l:δ dh}(h:gI Z X x l)(i:0<l.length)(g:m<=l.length)(s:O):∃c,jK 5 x ν (I m) (I m) s=.ok c s/\gI Z X c (l.take m):=by
 obtain⟨d,a,b⟩:=h;have hl:=b.len;obtain⟨v',f,e⟩:=a.FD J (dU b.w) J (m:=m) J s;rw[vy b.w m J]at e;exact⟨v',f,_,e,b.take m⟩
def gI.hi {l:δ dh}(h:gI Z X x l)(g:m<=l.length)(s:O):∃c,aQ 5 x ν (Φ (I m)) s=.ok c s/\gI Z X c (l.take m):=by
 obtain⟨d,a,b⟩:=h;have hl:=b.len;obtain⟨v',f,e⟩:=a.hi J (dU b.w) (h:=m) J s;rw[vy b.w m J]at e;exact⟨v',f,_,e,b.take m⟩
def vi {leaf:Bool}{a:K->O->Prop}(d:cI vc=θ)(c:cI vk=θ)(b:a (.ptr s.nx 0) (O.new s (Ϙ [.bool leaf,vc,vk]))):
 E (cK 251 Þ s) λx s2=>E (aJ 3 x (.agg [.bool leaf,vc,vk]) s2) λ_ s3=>a x s3:=gW rfl rfl (by simp[d,c]) b
def EN (τ:Nat)(π:PI)(G:GM)(a:δ aT)(c d:Nat)(Z:O)(y:K)(Z':O):Prop:=y=I 0/\Kp π.W Z Z'/\∃G',Tg τ π Z' G'/\gQ G' a/\G'.aO=G.aO/\G'.eu.length<=c/\G.bT<=G'.bT+d
def ij {b:Nat}{Kq0:K->Prop}(a:s.m.g b=Φ (Ϙ [.bool n.leaf,vc,vk]))(c:Kq0 (.agg [.bool n.leaf,vc,vk])):U (aF 3 (.ptr b 0) s) Kq0:=by
 rw[aG (n:=3) a rfl,af];exact c
def aaQ:∀(m:Nat) (d:δ dh),d.length=m->∀{Z:O} {G:GM} {f:dh} {n:bp} {h:Nat} {x v:K} {LL:δ aT},Tg τ π Z G->DC G h f.page d n LL->n.cells≠[]->n.size<=640->d.length+2<=G.bT->
 gI Z π.W x (d.reverse++[f])->IsNode Z π.W v n->d.length<=16->Rq0 213 [.ptr τ 0,x,v] Z (EN τ π G LL (G.eu.length+(2*d.length+3)) (d.length+2) Z):=by
 intro m
 induction m using Nat.strongRecOn with
 |_ m ih=>
  intro d hm Z G f n h x v LL ht y mh bl lR aq hv BJ;have sX:=ht.Vp;have G8:=hv;obtain⟨vc,vk,rfl,BZ,Tf⟩:=hv
  have qS:n.cells.length<=640:=by
   have:=fD n.leaf n.cells;rw[cq]at bl;omega
  refine bE ?_;rw[apu];rw[bz,aN];refine⟨rfl,?_⟩;have k1:Kp [] Z (O.new Z (Ϙ [.bool n.leaf,vc,vk])):=(Δ [] Z).new _;have g1:(O.new Z (Ϙ [.bool n.leaf,vc,vk])).m.g Z.nx=Φ (Ϙ [.bool n.leaf,vc,vk]):=ay _ _;have n1:(O.new Z (Ϙ [.bool n.leaf,vc,vk])).nx=Z.nx+1:=rfl;generalize O.new Z (Ϙ [.bool n.leaf,vc,vk])=s1 at*;have iD:=aq.mono (k1.mono V);have Au:(d.reverse++[f]).length=d.length+1:=V
  have e3:=λs=>by
   have:=CX (d.length+1) J J s ν
   rwa [Pi]at this
  obtain⟨QT,QS,c1,c2,jV⟩:=iD.row (i:=d.length) V;have hf:(d.reverse++[f])[d.length]'(by simp)=f:=V
  rw[hf]at c1 c2 jV;have hlen:=λs=>aq.len s;rw[Au]at hlen;simp only[hlen,af,e3];refine jV _ ?_;refine qG c1.bM.2.1 c2.bM.2.1 ?_;have k3:Kp [] s1 (O.new s1 (ϝ [I f.page,I f.at_,.bool f.n.leaf,QT,QS])):=(Δ [] s1).new _;have g3:(O.new s1 (ϝ [I f.page,I f.at_,.bool f.n.leaf,QT,QS])).m.g s1.nx=Φ (ϝ [I f.page,I f.at_,.bool f.n.leaf,QT,QS]):=ay _ _;have n3:(O.new s1 (ϝ [I f.page,I f.at_,.bool f.n.leaf,QT,QS])).nx=s1.nx+1:=rfl;generalize O.new s1 (ϝ [I f.page,I f.at_,.bool f.n.leaf,QT,QS])=s3 at*;have lQ:=k1.trans k3 V;have mW:=(k3.keep Z.nx J V).trans g1;have a8:=iD.mono (k3.mono V);obtain⟨cG,bb,VT⟩:=a8.FD V (m:=d.length) V s3
  have Er:(d.reverse++[f]).take d.length=d.reverse:=by
   rw[SM V]
  rw[Er]at VT;have t3:=ht.still lQ;simp only[bb,af];refine ij mW ?_;refine(Fh t3.fr ((G8.mono (lQ.mono V)).fc V) y.Qr J).mono ?_;rintro _ s4 ⟨rfl,k4⟩;have vt:=lQ.trans k4 V;have n4:=k4.nx;have Ax:=(k4.keep Z.nx J V).trans mW;have Vn:=(k4.keep s1.nx J V).trans g3;have t4:=ht.still vt;have v4:=G8.mono (vt.mono V);have cw:=VT.mono (k4.mono V);have e4:R .leq ν true (I n.size) (I 512) s4=.ok (.bool (decide (n.size<=512))) s4:=Hl
  simp only[e4,xl];obtain⟨lo,hi,Ll,Lr,L,ps,q,Aw,my,lp,Z0⟩:=y.ctx
  by_cases GA:n.size<=512
  .rw[jp GA,gq rfl];simp only[fl,ly,Vn,io];refine ij Ax ?_;refine(pP t4 y.bV (v4.fc V) y.Qr GA).mono ?_;rintro _ s5 ⟨rfl,k5,t5⟩;refine⟨rfl,(vt.mono V).trans k5 lk,_,t5,?_,rfl,by have:=vd G f.page (.node n);omega,by rw[oe];omega⟩;rw[<-Z0];exact Aw.write y.ok y.bV y.Qr GA mh my lp
  .rw[jo GA,B tW];obtain⟨i,I7,H⟩:=Uk y.Qr J J
   have Tj:cF n<n.cells.length:=by
    have:=H.lt;unfold cF;cases il:n.leaf with
    |false=>simp;omega
    |true=>
     rw[gq rfl];have hA:=H.neA;rcases H.eqs with⟨_,e,_⟩|⟨h,_⟩
     .rw[e]at hA
      have:0<i:=by
       rcases Nat.eq_zero_or_pos i with h0|h0
       .exact absurd (by show n.cells.take i=[];rw[h0,S6]) hA
       .exact h0
      omega
     .rw[il]at h;cases h
   refine ij Ax ?_;refine(UW t4.fr (v4.fc V) y.Qr J Tj).mono ?_;rintro _ o ⟨xa,xb,rfl,k6,ap,an⟩;generalize df:zC n=cu at*;obtain⟨a,sp,b⟩:=cu;simp only at H ap an;have n6:=k6.nx;have Gu:=vt.trans k6 V;have aw:∀q∈π.W,q<s4.nx:=λq hq=>by have:=sX q hq;have:=vt.nx;omega
   have xC:∀q,Z.nx<=q->q∉π.W:=λq hq hh=>aed
   obtain⟨ca,ka,rfl,al,ak⟩:=ap π.W aw;obtain⟨cb,kb,rfl,aj,ai⟩:=an π.W aw;obtain⟨cT,a3,cS⟩:=al.bM;obtain⟨cQ,a2,cP⟩:=ak.bM;obtain⟨cN,a1,cM⟩:=aj.bM;obtain⟨cL,a0,cD⟩:=ai.bM;have yy:(O.new o ϐb).nx=o.nx+1:=rfl;simp only[u6];rw[bW,aP,bW,aP,yy];have kA:Kp [] o (O.new (O.new o ϐb) ϐb):=((Δ [] o).new _).new _;have bu:(O.new (O.new o ϐb) ϐb).m.g o.nx=Φ ϐb:=(bo _ _ _ V).trans (ay _ _);have bt:(O.new (O.new o ϐb) ϐb).m.g (o.nx+1)=Φ ϐb:=ay (O.new o ϐb) _;have nA:(O.new (O.new o ϐb) ϐb).nx=o.nx+2:=rfl;generalize O.new (O.new o ϐb) ϐb=s8 at*;have mL:∀a b c:K,bC Þ 0 [a,b,c]=[a,b,c]:=λa b c=>rfl;rw[aK,bu,aU,aN,mL];refine⟨⟨rfl,by simp[a3,a2],V⟩,?_⟩;rw[aK,ar _ _ _ _ J,bt,aU,aN,mL];refine⟨⟨rfl,by simp[a1,a0],V⟩,?_⟩;have kB:Kp [] o (O.set (O.set s8 o.nx (Ϙ [.bool a.leaf,ca,ka])) (o.nx+1) (Ϙ [.bool b.leaf,cb,kb])):=(kA.set _ (.inr (hI _)) J).set _ (.inr J) xI;have bs:(O.set (O.set s8 o.nx (Ϙ [.bool a.leaf,ca,ka])) (o.nx+1) (Ϙ [.bool b.leaf,cb,kb])).m.g o.nx=Φ (Ϙ [.bool a.leaf,ca,ka]):=(ar _ _ _ _ J).trans (ao ..)
   have br:(O.set (O.set s8 o.nx (Ϙ [.bool a.leaf,ca,ka])) (o.nx+1) (Ϙ [.bool b.leaf,cb,kb])).m.g (o.nx+1)=Φ (Ϙ [.bool b.leaf,cb,kb]):=ao ..;have nB:(O.set (O.set s8 o.nx (Ϙ [.bool a.leaf,ca,ka])) (o.nx+1) (Ϙ [.bool b.leaf,cb,kb])).nx=o.nx+2:=nA;generalize O.set (O.set s8 o.nx (Ϙ [.bool a.leaf,ca,ka])) (o.nx+1) (Ϙ [.bool b.leaf,cb,kb])=am at*;have rn:=Gu.trans kB V;have aQ:=k6.trans kB V;have Mv:=(aQ.keep s1.nx J V).trans Vn;have a7:=ht.still rn;have cf:IsNode am π.W (.agg [.bool a.leaf,ca,ka]) a:=⟨ca,ka,rfl,al.mono (kB.mono V),ak.mono (kB.mono V)⟩;have cg:IsNode am π.W (.agg [.bool b.leaf,cb,kb]) b:=⟨cb,kb,rfl,aj.mono (kB.mono V),ai.mono (kB.mono V)⟩;simp only[fl,ly,Mv,io];refine ij bs ?_;refine(pP a7 y.bV (cf.fc V) H.okA H.szA).mono ?_;rintro _ eo ⟨rfl,pG,a6⟩;have LI:=pG.nx;have e5:∀s,R .neq ψ true μ μ s=.ok Θ s:=λs=>rfl;have b7:=(pG.keep (o.nx+1) J (xC _ (by have:=Gu.nx;omega))).trans br;simp only[e5,ll,ii];refine ij b7 ?_;have aY:0<(G.put f.page (.node a)).bT:=by rw[oe];omega
   have M:=UF (y.ok.put f.page (.node a)) aY H.okB H.szB H.neB;refine(E6 a6 aY (cg.mono pG) H.okB H.szB).mono ?_;rintro _ j ⟨rfl,oR,aa⟩;generalize hr:(G.put f.page (.node a)).dI=r at*;generalize de:(G.put f.page (.node a)).alloc.put r (.node b)=G2 at*;have Nl:=oR.nx;have zq:=((rn.mono V).trans pG lk).trans oR lk;have YW:=pG.trans oR lk;have b5:=(YW.keep s1.nx (by have:=rn.nx;omega) (xC _ J)).trans Mv;have aM:=(cw.mono (aQ.mono V)).mono YW;have aG:=aM.len j;rw[aNR]at aG;have bm:=tZ M.ok M.is.bV;have e6:R .eql ψ true (I d.length) μ j=.ok (.bool (decide (d.length=0))) j:=CU
   simp only[e5,zY,ii,aG,e6];have Dh:sp.length<=48:=by rw[H.key];exact(y.Qr.cell _ (mp ..)).key
   cases d with
   |nil=>
    obtain⟨_,rfl,rfl,rfl,rfl,rfl⟩:=(show f.page=G.root/\lo=[]/\hi=ν/\Ll=[]/\Lr=[]/\ps=[]from Aw);rw[gq (show decide (([]:δ dh).length=0)=θ from rfl)];have ql:aR ϐ1 [(0,1,.str sp)] j=.ok (.agg (ba (gU sp))) j:=rfl;rw[ql,af,mO (k:=4) rfl rfl rfl,aP];have rl:Kp [] j (O.new j (.cells (K.agg (ba (gU sp))).bY 255 false)):=(Δ [] j).new _;have Jk:(O.new j (.cells (K.agg (ba (gU sp))).bY 255 false)).m.g j.nx=Φ (Ϛ (ba (gU sp))):=ay _ _;have db:(O.new j (.cells (K.agg (ba (gU sp))).bY 255 false)).nx=j.nx+1:=rfl;generalize O.new j (.cells (K.agg (ba (gU sp))).bY 255 false)=D at*;have b6:=(rl.keep s1.nx J V).trans b5;have NW:bB 3 2 (cr 2 [μ]) [(0,1,I f.page),(1,1,I r)] D=.ok (.slice D.nx 0 2 2 0) (O.new D (Ϝ [I f.page,I r])):=rfl;simp only[b6,lW,io,NW,aP];have rk:Kp [] D (O.new D (Ϝ [I f.page,I r])):=(Δ [] D).new _;have bH:(O.new D (Ϝ [I f.page,I r])).m.g D.nx=Φ (Ϝ [I f.page,I r]):=ay _ _;have YH:(O.new D (Ϝ [I f.page,I r])).nx=D.nx+1:=rfl;generalize O.new D (Ϝ [I f.page,I r])=ew at*;have bG:=(rk.keep j.nx J V).trans Jk;have Ts:aR Þ [(1,1,.slice j.nx 0 1 1 0),(2,1,.slice D.nx 0 2 2 0)] ew=.ok (.agg [Θ,.slice j.nx 0 1 1 0,.slice D.nx 0 2 2 0]) ew:=rfl;rw[Ts,af];have ct:=zq.nx;have a5:=(aa.still rl).still rk
    have IT:IsNode ew π.W (.agg [Θ,.slice j.nx 0 1 1 0,.slice D.nx 0 2 2 0]) ⟨φ,[gU sp],[f.page,r]⟩:=
     ⟨_,_,rfl,.inr ⟨j.nx,0,1,1,0,rfl,rfl,⟨hI _,.inl rfl⟩,.inr ⟨xC _ J,J,_,_,_,bG,QV,rfl⟩⟩,.inr ⟨D.nx,0,2,2,0,rfl,rfl,⟨hI _,.inl rfl⟩,.inr ⟨xC _ J,J,_,_,_,bH,V,rfl⟩⟩⟩
    have bn:=tZ y.ok y.bV;have BM:bp.ok ⟨φ,[gU sp],[f.page,r]⟩:=⟨λc hc=>by simp at hc;subst hc;exact uZ Dh,by unfold jJ;simp,rfl,λk hk=>by simp at hk;rcases hk with rfl|rfl<;>assumption⟩
    have aH:bp.size ⟨φ,[gU sp],[f.page,r]⟩<=512:=by
     rw[cq];have h1:=(kg (uZ Dh)).2.2 rfl;have h2:=(gf f.page bn).2;have h3:=(gf r bm).2;have h4:(uv ([gU sp]:δ dq).length).length=1:=eY V;simp only[h4,pi,ii];have h5:(cY false [gU sp]).length=(jz false (gU sp)).length:=by simp[cY]
     have h6:(fo [f.page,r]).length=(uv f.page).length+(uv r).length:=ð
     rw[h5,h6];omega
    have PQ:0<G2.bT:=by have:=M.free;rw[oe]at this;simp at lR;omega
    have TC:=UF M.ok PQ BM aH V;refine(E6 a5 PQ IT BM aH).mono ?_;rintro _ gJ ⟨rfl,lH,ac⟩;simp only[e5,zY,ii];refine ac.get' ?_;refine(vg ac.pg _ (.inr TC.is.bV)).mono ?_;rintro _ dt ⟨rfl,tP,a9⟩;refine⟨rfl,?_,_,ac.of tP a9,?_,?_,by have h1:=vd G f.page (.node a);have h2:=M.eu;exact rx TC.eu (by simp only[IR];omega),by have h1:=M.free;have h2:=TC.free;rw[oe]at h1;refine rx (m:=(G2.alloc.put G2.dI (.node ⟨φ,[gU sp],[f.page,r]⟩)).bT+2) J (hI _)⟩
    .exact((((zq.trans rl V).trans rk V).trans lH lk).trans tP lk)
    .rw[<-Z0];simp only[ow,zo]at lp⊢;exact Kz y.ok y.bV y.Qr H my lp M TC
    .have h1:=TC.aO;have h2:=M.aO;exact h1.trans h2
   |cons sm gK=>
    rw[jo V,B tW];obtain⟨m1,m2,m3,m4,m5,mw,fB,AO,AN,L',rz,q',m6,m7,m8,m9⟩:=OU Aw y.ok y.bV y.Qr H my lp M;have di:=Aw;obtain⟨_,_,_,_,_,_,_,_,_,_,PG,_,_,_⟩:=Aw
    have dg:sm.n.cells.length<=512:=by
     have:=fD sm.n.leaf sm.n.cells;have:=PG.size;rw[cq]at this;omega
    have cz:=PG.ok.kR;rw[m2,B tW]at cz
    have e7:R .sub ν true (I (sm::gK).length) ϖ j=.ok (I gK.length) j:=by
     have:=CX (sm::gK).length (by simp at BJ⊢;omega) V j ν
     simpa using this
    have Yw:gI j π.W cG (gK.reverse++[sm]):=by simpa using aM
    obtain⟨F,p,d1,d2,IS⟩:=Yw.row (i:=gK.length) V;have Tk:(gK.reverse++[sm])[gK.length]'(by simp)=sm:=V
    rw[Tk,m2]at IS;rw[Tk]at d1 d2;rw[e7,af];refine IS _ ?_;refine qG d1.bM.2.1 d2.bM.2.1 ?_;have bk:Kp [] j (O.new j (ϝ [I sm.page,I sm.at_,Θ,F,p])):=(Δ [] j).new _;have Vo:(O.new j (ϝ [I sm.page,I sm.at_,Θ,F,p])).m.g j.nx=Φ (ϝ [I sm.page,I sm.at_,Θ,F,p]):=ay _ _;have da:(O.new j (ϝ [I sm.page,I sm.at_,Θ,F,p])).nx=j.nx+1:=rfl;generalize O.new j (ϝ [I sm.page,I sm.at_,Θ,F,p])=l at*
    have Ml:∀Kq0:K->Prop,Kq0 (.agg [Θ,F,p])->QC 3 2 (.ptr j.nx 0) l Kq0:=λKq0 hK=>by
     unfold QC;rw[ah,af,im (n:=3) Vo V,af];exact hK
    refine Ml _ ?_;refine vi d1.bM.2.1 d2.bM.2.1 ?_;have Pz:Kp [] l (O.new l (Ϙ [Θ,F,p])):=(Δ [] l).new _;have bx:(O.new l (Ϙ [Θ,F,p])).m.g l.nx=Φ (Ϙ [Θ,F,p]):=ay _ _;have c9:(O.new l (Ϙ [Θ,F,p])).nx=l.nx+1:=rfl;generalize O.new l (Ϙ [Θ,F,p])=z at*;have cm:=(Pz.keep j.nx J V).trans Vo;have BA:=bk.trans Pz V;have cp:=BA.fresh aa.fr;rw[aZ];have LU:=(Δ [] z).skip;have gX:(O.skip z).m.g z.nx=ν:=cp _ (hI _);have cW:(O.skip z).nx=z.nx+1:=rfl;have Z5:(O.skip z).m.g l.nx=Φ (Ϙ [Θ,F,p]):=bx;have aC:(O.skip z).m.g j.nx=Φ (ϝ [I sm.page,I sm.at_,Θ,F,p]):=cm;generalize O.skip z=sk at*;have aI:=BA.trans LU V;simp only[ly,Z5,kc,io];refine(yK ((d1.fc (Y:=[]) V).mono aI) (fv _) ó).mono ?_;rintro tq Q ⟨F1,Dg,o1,P7,_⟩;have c8:=Dg.nx;have av:=(Dg.keep j.nx J V).trans aC;have cy:=(Dg.keep l.nx J V).trans Z5;have b3:=(Dg.keep z.nx J V).trans gX;have ql:aR ϐ1 [(0,1,.str sp)] Q=.ok (.agg (ba (gU sp))) Q:=rfl;simp only[av,kc,io,ql,rb];rw[fY b3 (pH (k:=4) rfl rfl rfl),aP];have bj:Kp [z.nx] Q (O.set Q z.nx (.cells (K.agg (ba (gU sp))).bY 255 false)):=(Δ _ Q).set _ (.inl V) J;have bw:(O.set Q z.nx (.cells (K.agg (ba (gU sp))).bY 255 false)).m.g z.nx=Φ (Ϛ (ba (gU sp))):=ao ..;have bh:Own (O.set Q z.nx (.cells (K.agg (ba (gU sp))).bY 255 false)) tq 4 255 (bL sm.n.cells) F1:=o1.mono λb hb=>ar _ _ _ _ (by have:=(P7 b hb).1;omega)
    have bS:(O.set Q z.nx (.cells (K.agg (ba (gU sp))).bY 255 false)).m.g l.nx=_:=(ar _ _ _ _ J).trans cy;have ax:(O.set Q z.nx (.cells (K.agg (ba (gU sp))).bY 255 false)).m.g j.nx=_:=(ar _ _ _ _ J).trans av;have c7:(O.set Q z.nx (.cells (K.agg (ba (gU sp))).bY 255 false)).nx=Q.nx:=rfl;generalize O.set Q z.nx (.cells (K.agg (ba (gU sp))).bY 255 false)=ug at*;refine(IM bh (bN _) J (λb hb=>by have:=(P7 b hb).2;omega) bw (λhh=>afo) rfl (fv _) (iu _) m1).mono ?_;rintro u T ⟨F2,o2,ab,bF⟩;have c6:=ab.nx;have cC:l.nx∉F1:=λhh=>afo
    have cv:j.nx∉F1:=λhh=>afo
    have bX:=(ab.keep l.nx J cC).trans bS;have bI:=(ab.keep j.nx J cv).trans ax
    have vo:∀b∈F2,z.nx<b/\b<T.nx:=λb hb=>by
     obtain⟨p1,p2⟩:=bF b hb;refine⟨?_,p2⟩;rcases p1 with h|h
     .have:=(P7 b h).1;omega
     .omega
    obtain⟨be,Ws⟩:=o2.cI;have cc:bC [Θ,F,p] 1 [u]=[Θ,u,p]:=rfl
    have MA:(bL sm.n.cells).take (sm.at_*4)++(ba (gU sp)++(bL sm.n.cells).drop (sm.at_*4))=bL (more sm.n sm.at_ sp r).cells:=by
     rw[ml _ _ m1,mm _ _ m1];show _=bL (sm.n.cells.take sm.at_++gU sp::sm.n.cells.drop sm.at_);rw[iY]
     congr 1
    rw[MA]at o2;simp only[xz,bX,Ws,cc,aC,ax,lW,kc,io,sE,and_true,gX];refine⟨⟨rfl,by simp[be],V⟩,?_⟩;have dc:Kp [l.nx] T (O.set T l.nx (Ϙ [Θ,u,p])):=(Δ _ T).set _ (.inl V) J;have NZ:(O.set T l.nx (Ϙ [Θ,u,p])).m.g l.nx=Φ (Ϙ [Θ,u,p]):=ao ..;have bP:(O.set T l.nx (Ϙ [Θ,u,p])).m.g j.nx=_:=(ar _ _ _ _ J).trans bI;have c5:(O.set T l.nx (Ϙ [Θ,u,p])).nx=T.nx:=rfl;have bg:Own (O.set T l.nx (Ϙ [Θ,u,p])) u 4 255 (bL (more sm.n sm.at_ sp r).cells) F2:=o2.mono λb hb=>ar _ _ _ _ afp;have cd:=((aI.trans Dg V).trans bj xI).trans ab λq hq=>.inr (by have:=(P7 q hq).1;omega);have aS:Kp [] j (O.set T l.nx (Ϙ [Θ,u,p])):=cd.set _ (.inr J) J;generalize O.set T l.nx (Ϙ [Θ,u,p])=w at*;have cs:=aS.fresh aa.fr;have aW:=(Δ [] w).skip;have Gn:(O.skip w).m.g w.nx=ν:=cs _ (hI _);have dj:(O.skip w).nx=w.nx+1:=rfl;have aD:(O.skip w).m.g l.nx=_:=NZ;have aF:(O.skip w).m.g j.nx=_:=bP;rw[aZ];generalize O.skip w=sl at*;have aL:=aS.trans aW V;simp only[aD,lW,kc,io];refine(Cm ((d2.fc (Y:=[]) V).mono aL) (kM _) (by rw[rT];omega)).mono ?_;rintro pN S ⟨F3,N,o3,C,_⟩;have c4:=N.nx;have az:=(N.keep j.nx J V).trans aF;have b0:=(N.keep l.nx J V).trans aD;have b4:=(N.keep w.nx J V).trans Gn;simp only[az,kc,io,fV sm.at_ J,rb];have cx:gY [(0,1,I r)] (cr 1 [μ])=Φ [I r]:=rfl;rw[fY b4 cx,aP];have SA:Kp [w.nx] S (O.set S w.nx (Ϝ [I r])):=(Δ _ S).set _ (.inl V) J
    have XM:(O.set S w.nx (Ϝ [I r])).m.g w.nx=Φ (Ϝ [I r]):=ao ..;have bf:Own (O.set S w.nx (Ϝ [I r])) pN 1 3 (cR sm.n.kids) F3:=o3.mono λb hb=>ar _ _ _ _ (by have:=(C b hb).1;omega);have b1:(O.set S w.nx (Ϝ [I r])).m.g l.nx=_:=(ar _ _ _ _ J).trans b0;have bQ:(O.set S w.nx (Ϝ [I r])).m.g j.nx=_:=(ar _ _ _ _ J).trans az;have c3:(O.set S w.nx (Ϝ [I r])).nx=S.nx:=rfl;have ch:Own (O.set S w.nx (Ϝ [I r])) u 4 255 (bL (more sm.n sm.at_ sp r).cells) F2:=((bg.keep aW λb hb=>⟨aaE,V⟩).keep N λb hb=>⟨aaE,V⟩).mono λb hb=>ar _ _ _ _ aaE;generalize O.set S w.nx (Ϝ [I r])=AE at*;refine(PA (n:=sm.n.kids.length) (i:=sm.at_+1) bf V J (λb hb=>by have:=(C b hb).2;omega) XM (λhh=>by have:=(C _ hh).1;omega) rfl (kM _) rfl J).mono ?_;rintro P wj ⟨F4,o4,WY,bD⟩;have c0:=WY.nx;have b8:l.nx∉F3:=λhh=>by have:=(C _ hh).1;omega
    have b2:=(WY.keep l.nx J b8).trans b1
    have ad:∀b∈F4,w.nx<b/\b<wj.nx:=λb hb=>by
     obtain⟨p1,p2⟩:=bD b hb;refine⟨?_,p2⟩;rcases p1 with h|h
     .have:=(C b h).1;omega
     .omega
    have ci:=ch.keep WY λb hb=>⟨aaE,λhh=>by have:=(C b hh).1;have:=(vo b hb).2;omega⟩;obtain⟨bd,bc⟩:=o4.cI;have b9:bC [Θ,u,p] 2 [P]=[Θ,u,P]:=rfl
    have co:(cR sm.n.kids).take ((sm.at_+1)*1)++([I r]++(cR sm.n.kids).drop ((sm.at_+1)*1))=cR (more sm.n sm.at_ sp r).kids:=by
     rw[Fi,wW,wX];show _=cR (sm.n.kids.take (sm.at_+1)++r::sm.n.kids.drop (sm.at_+1));rw[pF]
     congr 1
    rw[co]at o4;simp only[b2,aU,bc,b9,aF,bQ,lW,kc,io,sE,and_true,Gn];refine⟨⟨rfl,by simp[bd],V⟩,?_⟩;have ce:=((aL.trans N V).trans SA xI).trans WY λq hq=>.inr (by have:=(C q hq).1;omega);have ag:Kp [] j (O.set wj l.nx (Ϙ [Θ,u,P])):=ce.set _ (.inr J) J;have bv:(O.set wj l.nx (Ϙ [Θ,u,P])).m.g l.nx=Φ (Ϙ [.bool (more sm.n sm.at_ sp r).leaf,u,P]):=ao ..;have cj:Own (O.set wj l.nx (Ϙ [Θ,u,P])) u 4 255 (bL (more sm.n sm.at_ sp r).cells) F2:=ci.mono λb hb=>ar _ _ _ _ afp;have cl:Own (O.set wj l.nx (Ϙ [Θ,u,P])) P 1 3 (cR (more sm.n sm.at_ sp r).kids) F4:=o4.mono λb hb=>ar _ _ _ _ (by have:=(ad b hb).1;omega);have cX:(O.set wj l.nx (Ϙ [Θ,u,P])).nx=wj.nx:=rfl;generalize O.set wj l.nx (Ϙ [Θ,u,P])=AD at*;refine ij bv ?_;have ct:=zq.nx
    have Xl:IsNode AD π.W (.agg [.bool (more sm.n sm.at_ sp r).leaf,u,P]) (more sm.n sm.at_ sp r):=
     ⟨u,P,rfl,cj.sl λb hb=>⟨xC b afp,aaE⟩,cl.sl λb hb=>⟨xC b (by have:=(ad b hb).1;omega),by have:=(ad b hb).2;omega⟩⟩
    have bq:DC G2 (h+1) sm.page gK (more sm.n sm.at_ sp r) LL:=⟨M.ok,m5,m3,mw,fB,AO,AN,L',rz,q',m6,m7,m8,m9.trans Z0⟩;have PQ:=M.free;rw[oe]at PQ;simp only[lx]at lR hm BJ;refine(ih gK.length J gK rfl (aa.still ag) bq (by unfold more;simp) J J (Yw.mono (ag.mono V)) Xl J).mono ?_;rintro _ Qq ⟨rfl,bi,G',a4,ck,sW,Dp,dd⟩;refine⟨rfl,(zq.trans ag V).trans bi lk,G',a4,ck,?_,by have:=vd G f.page (.node a);have:=M.eu;simp only[lx];omega,afE⟩;have h2:=M.aO;rw[sW,h2];rfl
def agJ {a:δ dh}{f:dh}{h:Nat}{d:δ aT}(j:Tg τ π Z G)(k:DC G h f.page a n d)(e:n.cells≠[])(b:n.size<=640)(g:a.length+2<=G.bT)
 (c:gI Z π.W x (a.reverse++[f])) (i:IsNode Z π.W v n) (l:a.length<=16):Rq0 213 [.ptr τ 0,x,v] Z (EN τ π G d (G.eu.length+(2*a.length+3)) (a.length+2) Z):=aaQ a.length a rfl j k e b g c i l
end
end
