import Derived.Test.YtckodcbgpffimaaGreatDoorPagC
namespace Lim
open Go
noncomputable section
set_option linter.defProp false
set_option maxRecDepth 100000
structure Tg (τ:Nat)(π:PI)(Z:O)(G:GM):Prop where
 pg:Pg π Z G
 lt:τ<Z.nx
 not:τ∉π.all
 get:∃ty g,Z.m.g τ=some (.cells [.ptr π.p 0] ty g)
 fr:dV Z
section
variable {τ:Nat} {π:PI} {Z Z':O} {G:GM}
def PI.EM {b:Nat}(h:b∈π.W):b∈π.all:=by unfold PI.W at h;unfold PI.all;simp at h⊢;rcases h with h|h|h|h<;>simp[h]
def Tg.still (h:Tg τ π Z G)(a:Kp [] Z Z'):Tg τ π Z' G:=by
 obtain⟨ty,g,b⟩:=h.get;exact⟨h.pg.still a,ov h.lt a.nx,h.not,⟨ty,g,(a.keep τ h.lt V).trans b⟩,a.fresh h.fr⟩
def Tg.of (h:Tg τ π Z G){G':GM}(a:Kp π.W Z Z')(b:Pg π Z' G'):Tg τ π Z' G':=by
 obtain⟨ty,g,c⟩:=h.get;exact⟨b,ov h.lt a.nx,h.not,⟨ty,g,(a.keep τ h.lt λhh=>h.not (PI.EM hh)).trans c⟩,a.fresh h.fr⟩
def Tg.get' (h:Tg τ π Z G){k:K->Prop}(a:k (.ptr π.p 0)):fP 0 (.ptr τ 0) Z k:=by
 obtain⟨ty,g,b⟩:=h.get;simp only[fP,rr,b,io];exact a
def Tg.Vp (h:Tg τ π Z G):∀b∈π.W,b<Z.nx:=h.pg.Vp
def AV (h:Tg τ π Z G){page:Nat}{n:bp}(f:pk G page n):Rq0 149 [.ptr τ 0,I page] Z (yP n Z):=by
 refine bE ?_;rw[aqj];have u:Kp [] Z (O.new Z ϐb):=(Δ [] Z).new _;have S:(O.new Z ϐb).m.g Z.nx=Φ ϐb:=ay _ _;have n1:(O.new Z ϐb).nx=Z.nx+1:=rfl;rw[bW,aP];generalize O.new Z ϐb=s1 at*;have h1:=h.still u;refine h1.get' ?_;refine(RT h1.pg f.bV).mono ?_;rintro _ s2 ⟨o,hl,b,rfl,z,b1,b2⟩;rw[f.cont]at hl z;have n2:=o.nx;have Y:R .eql ψ true μ ϖ s2=.ok Θ s2:=rfl;have W:R .neq ψ true μ μ s2=.ok Θ s2:=rfl;simp only[yB,Y,zY,ii,W];have Qx:(al (jE (.node n))).length=512:=afG
 have M:Sl s2 [] (.slice b 0 512 512 1) 1 (al (oo n++List.replicate (512-n.size) 0)):=.inr ⟨b,0,512,512,1,rfl,(show(al (jE (.node n))).length=512*1 by rw[Qx]),⟨hI _,.inr rfl⟩,.inr ⟨V,b2,_,_,_,z,J,by rw[tu,lw J];rfl⟩⟩;have s:=u.trans o V;have hs:=f.size;refine(Qc (s.fresh h.fr) M f.ok J).mono ?_;rintro _ c ⟨x,rfl,l,w⟩;have n5:=l.nx;obtain⟨e,d,rfl,D,c2⟩:=w [Z.nx] xI;obtain⟨x1,x2,x3⟩:=D.bM;obtain⟨y1,y2,y3⟩:=c2.bM;simp only[u6];refine gW rfl rfl ò ?_;have k:Kp [] c (O.new c (Ϙ [.bool n.leaf,e,d])):=(Δ _ c).new _;have i:(O.new c (Ϙ [.bool n.leaf,e,d])).m.g c.nx=Φ (Ϙ [.bool n.leaf,e,d]):=ay _ _;have n7:(O.new c (Ϙ [.bool n.leaf,e,d])).nx=c.nx+1:=rfl;generalize O.new c (Ϙ [.bool n.leaf,e,d])=a at*;have p:=(s.trans l V).trans k V;have F:=(k.keep Z.nx J V).trans ((l.keep Z.nx J V).trans ((o.keep Z.nx J V).trans S));have C:R .eql ψ true μ μ a=.ok ι a:=rfl;have hlen:=(D.mono (k.mono V)).len n.cells.length (bN _) J a
 have j:U (aF 3 (.ptr c.nx 0) a) λdO=>E (aJ 3 (.ptr Z.nx 0) dO a) λ_ r=>U (aF 3 (.ptr Z.nx 0) r) λdC=>yP n Z (.tuple [dC,μ]) r:=by
  have L:bC Þ 0 [.bool n.leaf,e,d]=[.bool n.leaf,e,d]:=rfl;rw[aG (n:=3) i rfl,af,aK,F,aU,aN,L];refine⟨⟨rfl,ò,V⟩,?_⟩;rw[aG (n:=3) (ao ..) rfl,af];have N:Kp [Z.nx] a (O.set a Z.nx (Ϙ [.bool n.leaf,e,d])):=(Δ _ a).set _ (.inl V) J;refine⟨_,rfl,p.set _ (.inr (hI _)) J,λX Q=>?_⟩;have:=(w (X++[Z.nx]) (by intro b y;simp at y;rcases y with h|h;have:=Q b h;omega;omega)).mono (k.mono V);exact(this.mono (N.mono V)).fc (by intro q P;simp[P])
 have H:=f.full;cases v:n.leaf with
 |true=>
  rw[v]at i;simp only[C,ix,gG,aW,vr,i,io,bZ,ii,xk];exact j
 |false=>
  rw[v]at i;have L9:=TK.2 H;have T:R .eql ψ true (I n.cells.length) μ a=.ok Θ a:=GW
  simp only[C,ix,gG,vr,i,kc,io,bZ,hlen,T,GT,ii];exact j
def QK (m:Nat):cr m [ϕ]=al (List.replicate m 0):=by
 induction m with
 |zero=>rfl
 |succ m a=>
  have:cr (m+1) [K.int .u8 0]=.int .u8 0::cr m [ϕ]:=by simp[cr,aNr]
  rw[this,a];rfl
def pP (h:Tg τ π Z G){page:Nat}{n:bp}{v:K}(S:G.bV page)(u:IsNode Z [] v n)(Y:n.ok)(w:n.size<=512):Rq0 217 [.ptr τ 0,I page,v] Z λy Z'=>y=I 0/\Kp π.W Z Z'/\Tg τ π Z' (G.put page (.node n)):=by
 have G8:=u;obtain⟨c,a,rfl,h1,h2⟩:=u;refine bE ?_;rw[apq];rw[bz,aN];refine⟨rfl,?_⟩;have d:Kp [] Z (O.new Z (Ϙ [.bool n.leaf,c,a])):=(Δ [] Z).new _;have g1:(O.new Z (Ϙ [.bool n.leaf,c,a])).m.g Z.nx=Φ (Ϙ [.bool n.leaf,c,a]):=ay _ _;generalize O.new Z (Ϙ [.bool n.leaf,c,a])=s1 at*;have f:=h.still d;rw[aG (n:=3) g1 rfl,af];refine(P9 f.fr (G8.mono d) Y w).mono ?_;rintro _ s2 ⟨x,rfl,i⟩;have s:=i.kp;have H:=f.still s;obtain⟨ty,g,hg⟩:=H.get;have e1:R .neq ψ true μ μ s2=.ok Θ s2:=rfl;have e2:R .sub ν true (I 512) (I n.size) s2=.ok (ζ (512-n.size)) s2:=CS
 have hlen:=(i.sl [] V).len n.size afW J s2
 have k:cZ .zeros 1 [ϕ] (ζ (512-n.size)) s2=Φ (512-n.size,al (List.replicate (512-n.size) 0)):=by
  have:cZ .zeros 1 [ϕ] (ζ (512-n.size)) s2=bF (Nat.ble (512-n.size) 1099511627776) (Φ (512-n.size,cr (512-n.size) [ϕ])) ν:=rfl;rw[this,aS,gq ô,QK]
 obtain⟨F,a1,a2,l⟩:=i;have vu:(al (oo n)).length=n.size:=afW
 obtain⟨v',L,F',b1,C,b3,z⟩:=a2.append (n:=512-n.size) (bytes:=1) (T:=al (List.replicate (512-n.size) 0)) J V (bK _) (λb e=>(l b e).2) (by simp[bp.size]at*;omega);simp only[e1,zY,ii,aZ,bk,vr,hg,io,hlen,e2,k,b1,aP];have r:=a1.trans b3 λq X=>.inr (l q X).1;have p:=f.still r;obtain⟨D,g3,j⟩:=p.get;rw[<-bQ]at C
 have P:Sl L [π.bn,π.bc] v' 1 (al (jE (.node n))):=C.sl λb e=>⟨λhh=>by
  have h9:=h.Vp b (by unfold PI.W;simp at hh;rcases hh with h|h<;>simp[h]);have:=d.nx;have:=s.nx;rcases(z b e).1 with h|h
  .have:=(l b h).1;omega
  .omega,(z b e).2⟩
 refine(Na p.pg S P (KD w)).mono ?_;rintro _ s4 ⟨rfl,Q,M⟩;simp only[j,lW,io];have N:=d.trans r V;have o:=(N.mono V).trans Q lk;exact⟨⟨⟨gt,gt⟩,gt⟩,gt,gt,o,h.of o M⟩
def E6 (h:Tg τ π Z G){n:bp}{v:K}(j:0<G.bT)(i:IsNode Z π.W v n)(r:n.ok)(q:n.size<=512):Rq0 181 [.ptr τ 0,v] Z λy Z'=>y=.tuple [I G.dI,μ]/\Kp π.W Z Z'/\Tg τ π Z' (G.alloc.put G.dI (.node n)):=by
 have C:=i;obtain⟨b,a,rfl,L,H⟩:=i;refine bE ?_;rw[apO];rw[bz,aN];refine⟨rfl,?_⟩;have e:Kp [] Z (O.new Z (Ϙ [.bool n.leaf,b,a])):=(Δ [] Z).new _;have x:(O.new Z (Ϙ [.bool n.leaf,b,a])).m.g Z.nx=Φ (Ϙ [.bool n.leaf,b,a]):=ay _ _;have F:(O.new Z (Ϙ [.bool n.leaf,b,a])).nx=Z.nx+1:=rfl;generalize O.new Z (Ϙ [.bool n.leaf,b,a])=s1 at*;have d:=h.still e;refine d.get' ?_;refine(Nb d.pg j).mono ?_;rintro _ s2 ⟨rfl,c,o⟩;have l:=d.of c o;have u:Z.nx∉π.W:=λhh=>by have:=h.Vp _ hh;omega
 have w:=(c.keep Z.nx J u).trans x;have z:R .neq ψ true μ μ s2=.ok Θ s2:=rfl;simp only[z,zY,ii];rw[aG (n:=3) w rfl,af];have s:=vL h.pg.Z7 j;have f:IsNode s2 [] (.agg [.bool n.leaf,b,a]) n:=((C.mono (e.mono V)).mono c).fc V;refine(pP l ((s.bV _).2 (.inr rfl)) f r q).mono ?_;rintro _ D ⟨rfl,p,k⟩;exact⟨rfl,((e.mono V).trans c lk).trans p lk,k⟩
def VM {v:K}{n:bp}{key:bS}(h:IsNode Z [] v n)(l:n.ok)(p:n.cells.length<=100000):Rq0 209 [v,.str key] Z λx Z'=>x=I (jU n key)/\Kp [] Z Z':=by
 have q:=h;obtain⟨d,b,rfl,u,s⟩:=h;refine bE ?_;rw[apy];rw[bz,aN];refine⟨rfl,?_⟩;have j:Kp [] Z (O.new Z (Ϙ [.bool n.leaf,d,b])):=(Δ [] Z).new _;have r:(O.new Z (Ϙ [.bool n.leaf,d,b])).m.g Z.nx=Φ (Ϙ [.bool n.leaf,d,b]):=ay _ _;generalize O.new Z (Ϙ [.bool n.leaf,d,b])=s1 at*;rw[aG (n:=3) r rfl,af];refine(TM (q.mono j) p).mono ?_;rintro _ s2 ⟨rfl,k⟩;have o:n.find key<=n.cells.length:=aNt;have a:=abV l.sorted key;have f:=j.trans k V;simp only[DK,xl];cases hc:n.cells[n.find key]? with
 |none=>
  rw[hc]at a;have i:n.hasB key=φ:=by unfold bp.hasB;rw[hc]
  rw[i,B tW];exact⟨by rw[a],f⟩
 |some c=>
  rw[hc]at a;dsimp only at a;have i:n.hasB key=decide (c.key=key):=by unfold bp.hasB;rw[hc]
  rw[i]
  by_cases e:c.key=key
  .rw[gq e]at a;rw[jp e,gq rfl,fV _ J,af];exact⟨by rw[a],f⟩
  .rw[B e]at a;rw[jo e,B tW];exact⟨by rw[a],f⟩
end
section
variable {X:δ Nat}{rs:δ (δ K)}
section
variable {τ:Nat} {π:PI} {Z Z':O} {G:GM}
def GP (Z:O)(X:δ Nat)(row:δ K)(s:dh):Prop:=∃b a,row=[I s.page,I s.at_,.bool s.n.leaf,b,a]/\Sl Z X b 4 (bL s.n.cells)/\Sl Z X a 1 (cR s.n.kids)
def eh (Z:O)(X:δ Nat):δ (δ K)->δ dh->Prop
 |[],[]=>True
 |r::rs,s::l=>GP Z X r s/\eh Z X rs l
 |_,_=>False
def eh.mono {l:δ dh}(h:eh Z X rs l)(e:Kp X Z Z'):eh Z' X rs l:=by
 induction rs generalizing l with
 |nil=>cases l with|nil=>trivial|cons s l=>exact h
 |cons r rs i=>cases l with
  |nil=>exact h
  |cons s l=>obtain⟨⟨g,f,a,b,c⟩,d⟩:=h;exact⟨⟨g,f,a,b.mono e,c.mono e⟩,i d⟩
def eh.fc {Y:δ Nat}{l:δ dh}(h:eh Z X rs l)(e:∀q∈Y,q∈X\/Z.nx<=q):eh Z Y rs l:=by
 induction rs generalizing l with
 |nil=>cases l with|nil=>trivial|cons s l=>exact h
 |cons r rs i=>cases l with
  |nil=>exact h
  |cons s l=>obtain⟨⟨g,f,a,b,c⟩,d⟩:=h;exact⟨⟨g,f,a,b.fc e,c.fc e⟩,i d⟩
def eh.snoc {l:δ dh}{r:δ K}{s:dh}(h:eh Z X rs l)(b:GP Z X r s):eh Z X (rs++[r]) (l++[s]):=by
 induction rs generalizing l with
 |nil=>cases l with|nil=>exact⟨b,gt⟩|cons s l=>exact h.elim
 |cons r rs a=>cases l with|nil=>exact h.elim|cons s l=>exact⟨h.1,a h.2⟩
def eh.len {l:δ dh}(h:eh Z X rs l):rs.length=l.length:=by
 induction rs generalizing l with
 |nil=>cases l with|nil=>rfl|cons s l=>exact h.elim
 |cons r rs a=>cases l with|nil=>exact h.elim|cons s l=>simp[a h.2]
def eh.w {l:δ dh}(h:eh Z X rs l):∀x∈rs,x.length=5:=by
 induction rs generalizing l with
 |nil=>simp
 |cons r rs e=>cases l with
  |nil=>exact h.elim
  |cons s l=>
   obtain⟨⟨g,f,rfl,b,c⟩,d⟩:=h;intro x a;rcases ip.1 a with rfl|a
   .rfl
   .exact e d x a
def eh.at {l:δ dh}(h:eh Z X rs l){i:Nat}(hi:i<l.length):∃d:i<rs.length,GP Z X rs[i] l[i]:=by
 induction rs generalizing l i with
 |nil=>cases l with
  |nil=>simp at hi
  |cons s l=>exact h.elim
 |cons r rs c=>cases l with
  |nil=>exact h.elim
  |cons s l=>
   cases i with
   |zero=>exact⟨V,h.1⟩
   |succ i=>obtain⟨a,b⟩:=c h.2 (i:=i) J9;exact⟨xI,b⟩
def gI (Z:O)(X:δ Nat)(x:K)(l:δ dh):Prop:=∃a,Sl Z X x 5 a.flatten/\eh Z X a l
def gI.mono {x:K}{l:δ dh}(h:gI Z X x l)(d:Kp X Z Z'):gI Z' X x l:=by
 obtain⟨c,a,b⟩:=h;exact⟨c,a.mono d,b.mono d⟩
def Yf (G:GM)(key:bS)(L:δ aT)(Z:O)(y:K)(Z':O):Prop:=
 Kp [] Z Z'/\∃x,y=.tuple [x,μ]/\((G.root=0/\x=.ae)\/∃f a,xu G key f a L/\(a.length<=16/\(G.aO<=4095->a.length<=10))/\∀X,(∀b∈X,b<Z.nx)->gI Z' X x (a.reverse++[f]))
def FG (h:Tg τ π Z G){L:δ aT}(ht:gQ G L)(key:bS):Rq0 166 [.ptr τ 0,.str key] Z (Yf G key L Z):=by
 refine bE ?_;rw[aqd];simp only[yB];refine h.get' ?_;refine(Lh h.pg).same ?_
 by_cases h0:G.root=0
 ·
   refine bD (λfu P s=>P=[.ptr τ 0,.str key,.ae,I G.root]/\s=Z) ?_ (n:=0) ⟨rfl,rfl⟩;rintro fu P s k ⟨rfl,rfl⟩ next;have e1:R .neq ψ true (I G.root) μ s=.ok Θ s:=by rw[h0];rfl
   simp only[ke,e1,ll,ii];exact⟨Δ _ _,.ae,rfl,.inl ⟨h0,rfl⟩⟩
 .obtain⟨H,ab,hA0,Zg⟩:=ht.tree.resolve_left λh=>h0 h.1;have hH:=Zg.deep hA0.nd ht.ok;have ah:=λhp=>Zg.alL hA0.nd ht.ok hp
  refine bD (λfu P s=>∃(l:δ dh) (hh page:Nat) (lo:bS) (hi:υ bS) (T S Lm:δ aT) (ps q:δ Nat) (x:K) (a:δ (δ K)) (F:δ Nat),
   fu=hh/\P=[.ptr τ 0,.str key,x,I page]/\Kp [] Z s/\Ctx G hh l.reverse page lo hi T S ps/\Sub G hh page lo hi Lm q/\lO lo key/\F8 key hi/\CH G (q++ps)/\T++(Lm++S)=L/\l.length+hh=H/\Own s x 5 293 a.flatten F/\(∀b∈F,Z.nx<=b/\b<s.nx)/\
   (∀X,(∀b∈X,b<Z.nx\/b∈F)->eh s X a l)) ?_ (n:=H) ⟨[],H,G.root,[],ν,[],[],L,[],ab,.ae,[],[],rfl,rfl,Δ _ _,⟨rfl,rfl,rfl,rfl,rfl,rfl⟩,Zg,Nk _,gt,by simpa using hA0,V,V,.inl ⟨rfl,rfl,rfl⟩,V,λX M=>trivial⟩
  rintro fu P s k ⟨l,hh,page,lo,hi,T,S,Lm,ps,q,x,a,F,rfl,rfl,hk,Aw,vX,Ew,Kg,lp,hL,ak,qz,hF,fJ⟩ next;have lU:=vX;obtain⟨n,qn,D,Y,rfl⟩:=vX;have L9:=D.bV.1;have e1:R .neq ψ true (I page) μ s=.ok ι s:=by rw[au,dJ,jo J];rfl
  simp only[DJ,e1,ix];have ts:=h.still hk;have am:=hk.nx;refine(AV ts D).mono ?_;rintro _ o ⟨xn,rfl,k3,z⟩;have n3:=k3.nx;obtain⟨f,c,rfl,c1,c2⟩:=z [] V;obtain⟨x1,x2,x3⟩:=c1.bM;obtain⟨y1,y2,y3⟩:=c2.bM;simp only[u6];refine gW rfl rfl ò ?_;have k5:Kp [] o (O.new o (Ϙ [.bool n.leaf,f,c])):=(Δ _ o).new _;have N:(O.new o (Ϙ [.bool n.leaf,f,c])).m.g o.nx=Φ (Ϙ [.bool n.leaf,f,c]):=ay _ _;have n5:(O.new o (Ϙ [.bool n.leaf,f,c])).nx=o.nx+1:=rfl;generalize O.new o (Ϙ [.bool n.leaf,f,c])=u at*;have I4:=k3.trans k5 V;have o5:=qz.keep I4 λb hb=>⟨(hF b hb).2,V⟩;have ZU:=(fJ [] V);have BJ:=ZU.len;have Zi:=dU ZU.w;have aa:Sl u [] x 5 a.flatten:=o5.sl λb hb=>⟨V,afn⟩;have e2:R .neq ψ true μ μ u=.ok Θ u:=rfl;have e3:R .eql ψ true (I a.length) (I 40) u=.ok Θ u:=GW
  have qS:n.cells.length<=512:=by
   have:=fD n.leaf n.cells;have:=D.size;rw[cq]at this;omega
  simp only[e2,ll,ii,aa.len a.length Zi J u,e3,fl,vr,N,io];have Gp:IsNode u [] (.agg [.bool n.leaf,f,c]) n:=⟨f,c,rfl,c1.mono k5,c2.mono k5⟩
  have e:∀(j:O) (at_:Nat) (Kq0:K->O->Prop),Kp [] u j->(∀v' d F',Own d v' 5 293 (a++[[I page,I at_,.bool n.leaf,f,c]]).flatten F'->Kp [] Z d->d.m.g o.nx=Φ (Ϙ [.bool n.leaf,f,c])->(∀b∈F',Z.nx<=b/\b<d.nx)->Sl d [] c 1 (cR n.kids)->
   (∀X,(∀b∈X,b<Z.nx\/b∈F')->eh d X (a++[[I page,I at_,.bool n.leaf,f,c]]) (l++[⟨page,at_,n⟩]))->Kq0 v' d)->
   U (aF 3 (.ptr o.nx 0) j) λdC=>U (aR ϐ7 [(0,1,I page),(1,1,I at_),(2,3,dC)] j) λdD=>E (bB 293 1 (cr 1 ϐ7) [(0,5,dD)] j) λdN s7=>
    E (bI 293 5 72 x (cZ .slice 5 ϐ7 dN s7) s7) Kq0:=by
   intro j at_ Kq0 r hK;have n6:=r.nx;have g6:=(r.keep o.nx J V).trans N;have Gu:=I4.trans r V;rw[aG (n:=3) g6 rfl,af]
   have ql:aR ϐ7 [(0,1,I page),(1,1,I at_),(2,3,.agg [.bool n.leaf,f,c])] j=.ok (.agg [I page,I at_,.bool n.leaf,f,c]) j:=by
    rw[eK];simp[cW,bC]
   rw[ql,af];have o6:=o5.keep r λb hb=>⟨afn,V⟩;have an:a.length<=16:=J
   refine aeA 72 o6 J (λb hb=>afn) rfl rfl rfl ò (by rw[Zi];omega) ?_;intro v' d F' Q p a3
   have Z1:∀b∈F',Z.nx<=b/\b<d.nx/\(b∈F\/j.nx<=b):=λb hb=>by
    obtain⟨p1,p2⟩:=a3 b hb;refine⟨?_,p2,p1⟩;rcases p1 with h|h
    .exact(hF b h).1
    .omega
   have oL:=(hk.trans Gu V).trans p λb hb=>.inr (hF b hb).1;have ai:o.nx∉F:=λhh=>by have:=(hF _ hh).2;omega
   have ac:=z F (λb hb=>(hF b hb).2);obtain⟨_,_,e9,d1,d2⟩:=ac;cases e9;have C:=k5.trans r V;refine hK v' d F' (by simpa using Q) oL ((p.keep o.nx J ai).trans g6) (λb hb=>⟨(Z1 b hb).1,(Z1 b hb).2.1⟩) (((d2.mono (C.mono V)).mono p).fc V) ?_;intro X M;refine eh.snoc ?_ ⟨f,c,rfl,?_,?_⟩
   .have h1:=fJ ((X.filter λb=>decide (b<Z.nx))++F) (by intro b hb;simp at hb;rcases hb with h|h;exact .inl h.2;exact .inr h)
    have v:eh s (X++F) a l:=h1.fc (by
     intro b hb;simp only[lh,tH,ws]at hb⊢;rcases hb with hb|hb
     .rcases M b hb with h|h
      .exact .inl (.inl ⟨hb,h⟩)
      .rcases(Z1 b h).2.2 with v|v
       .exact .inl (.inr v)
       .right;have:=Gu.nx;omega
     .exact .inl (.inr hb))
    exact((v.mono (Gu.mono V)).mono (p.mono λq hq=>.inl QU)).fc (by intro b hb;simp[hb])
   all_goals
    obtain⟨_,_,e9,d3,d4⟩:=z ((X.filter λb=>decide (b<s.nx))++F) (by intro b hb;simp at hb;rcases hb with h|h;exact h.2;exact(hF b h).2);cases e9
    have Tp:∀b∈X++F,b∈(X.filter λb=>decide (b<s.nx))++F\/j.nx<=b:=by
     intro b hb;simp only[lh,tH,ws]at hb⊢;rcases hb with hb|hb
     .rcases M b hb with h|h
      .exact .inl (.inl ⟨hb,J⟩)
      .rcases(Z1 b h).2.2 with v|v
       .exact .inl (.inr v)
       .exact .inr v
     .exact .inl (.inr hb)
   .exact(((d3.mono (C.mono V)).fc Tp).mono (p.mono λq hq=>.inl QU)).fc (by intro b hb;simp[hb])
   .exact(((d4.mono (C.mono V)).fc Tp).mono (p.mono λq hq=>.inl QU)).fc (by intro b hb;simp[hb])
  cases fu with
  |zero=>
   have y:n.leaf=θ:=Y.leaf;rw[y]at e;rw[y]at N Gp;rw[y,gq rfl,aG (n:=3) N rfl,af];refine(TM Gp J).mono ?_;rintro _ j ⟨rfl,r⟩;simp only[u6];refine e j (n.find key) _ r ?_;intro v' d F' Q p a3 a4 a5 a6;refine⟨p,v',rfl,.inr ⟨⟨page,n.find key,n⟩,l.reverse,⟨lo,hi,T,S,Lm,ps,qn,Aw,D,Y,Ew,Kg,by simpa using lp,hL,rfl⟩,⟨by rw[aNR];omega,λhp=>by rw[aNR];have:=ah hp;omega⟩,λX M=>?_⟩⟩;rw[aND];exact⟨_,Q.sl λb hb=>⟨λhh=>by have:=M b hh;have:=(a4 b hb).1;omega,(a4 b hb).2⟩,a6 X λb hb=>.inl (M b hb)⟩
  |succ hh=>
   have y:n.leaf=φ:=Y.leaf;obtain⟨W,LM,xB,La,aj,Lb,p2,pm,d1,d2,d3,d4,d5,d6,d7⟩:=Aw.descend D Y Ew Kg;rw[y]at e;rw[y]at N Gp;rw[y,B tW,aG (n:=3) N rfl,af];refine(VM Gp D.ok J).mono ?_;rintro _ j ⟨rfl,r⟩;refine e j (jU n key) _ r ?_;intro v' d F' Q p a3 a4 a5 a6;obtain⟨fB,sW⟩:=qo.1 d1;simp only[a3,lW,kc,io];refine a5.idx (i:=jU n key) (by simpa using fB) _ ?_;have e4:(cR n.kids)[jU n key]'(by simpa using fB)=I W:=by simp[cR,sW]
   have al:0<W:=by obtain⟨_,_,ad,_⟩:=d3;exact ad.bV.1
   have e5:R .eql ψ true (I W) μ d=.ok Θ d:=GW
   rw[e4,e5,af,ag,B tW];refine next hh _ _ J ⟨l++[⟨page,jU n key,n⟩],hh,W,LM,xB,T++La,Lb++S,aj,p2,pm,v',_,F',rfl,rfl,p,?_,d3,d4,d5,?_,?_,xI,Q,a4,a6⟩
   .rw[List.reverse_append];exact d2
   .exact CH.perm (by simpa using lp) d7
   .rw[<-hL,d6];simp
end
end
section
variable {v:δ Γ}{n:Nat}{G:GM}{ps:δ Nat}
section
variable {Z Z':O}
def Kt {X:δ Nat}{v:K}{l:δ Γ}(h:Sl Z X v 1 (al l))(q:l.length<=1000)(b:∀i,tL (l.take i)<=4611686018427387904):Rq0 240 [v] Z λx Z'=>x=I (tL l)/\Z'=Z:=by
 refine bE ?_;rw[aoZ];have hlen:=h.len l.length V J Z;show U _ _;rw[hlen,af];show cV ..;simp only[ke];refine bD (λfu a s=>∃i,fu+i=l.length/\a=[I (tL (l.take i)),v,I l.length,I i]/\s=Z) ?_ (n:=l.length) ⟨0,rfl,rfl,rfl⟩;rintro fu a s k ⟨i,hi,rfl,rfl⟩ next;simp only[ke]
 by_cases hc:i<l.length
 .have a1:R .lss ν false (I i) (I l.length) s=.ok ι s:=by rw[au,cU,jp J]
  have r:=b i;have p:=b (i+1);have c:l.take (i+1)=l.take i++[l[i]]:=by rw[su hc]
  rw[c,uQ]at p;have d:=(l[i]).toNat_lt
  have o:R .shl ν true (I (tL (l.take i))) (.int .u64 8) s=.ok (ζ (tL (l.take i)*2^8)) s:=by
   have e:R .shl ν true (I (tL (l.take i))) (.int .u64 8) s=.ok (I (IntKind.i64.wrap ((tL (l.take i):Int)*2^8))) s:=rfl;rw[e,bt J];simp
  have m:cX (.toInt .i64) (bG l[i]) s=.ok (I (l[i]).toNat) s:=AW _ J _ _;have j:R .or ν false (ζ (tL (l.take i)*2^8)) (I (l[i]).toNat) s=.ok (ζ (tL (l.take i)*2^8+(l[i]).toNat)) s:=D6 _ _ _ J J ..;have g:R .add ν true (I i) ϖ s=.ok (ζ (i+1)) s:=AU
  simp only[a1,xl,ix,o];refine h.idx EV _ ?_;have f:(al l)[i]'(by simpa using hc)=bG l[i]:=ZO
  rw[f,m,af,j,af,g,af];exact next (fu-1) _ _ J ⟨i+1,J,by rw[c,uQ],rfl⟩
 .have a1:R .lss ν false (I i) (I l.length) s=.ok Θ s:=by rw[au,cU,jo J]
  simp only[a1,ll,ii];rw[lw J];exact⟨rfl,gt⟩
def VH {b off len cap:Nat}{L:δ K}{t:TypeId}{g:Bool}(j:Z.m.g b=Φ (.cells L t g))(M:b<Z.nx)(H:off+len<=L.length)(d:len<=8)(D:n<9223372036854775808):
 Rq0 222 [.slice b off len cap 0,I n] Z λx Z'=>Kp [b] Z Z'/\Z'.nx=Z.nx/\Z'.m.g b=Φ (.cells (bC L off (al (be len n))) t g):=by
 refine bE ?_;rw[apl];simp only[yB,jM,af]
 refine bD (λfu c s=>∃i,fu+i=len/\c=[.slice b off len cap 0,I n,I len,I i]/\Kp [b] Z s/\s.nx=Z.nx/\s.m.g b=Φ (.cells (bC L (off+len-i) (al (be i n))) t g)) ?_ (n:=len) ⟨0,rfl,rfl,Δ _ _,rfl,by
  have:al (be 0 n)=[]:=rfl;rw[this,Bo];exact j⟩
 rintro fu c s k ⟨i,hi,rfl,e,f,a⟩ next;simp only[ke]
 by_cases F:i<len
 .have a1:R .lss ν false (I i) (I len) s=.ok ι s:=by rw[au,cU,jp J]
  have y:R .sub ν true (I len) ϖ s=.ok (ζ (len-1)) s:=CS
  have w:R .sub ν false (ζ (len-1)) (I i) s=.ok (ζ (len-1-i)) s:=CS
  have u:R .mul ν true (I 8) (I i) s=.ok (ζ (8*i)) s:=MR
  have r:de 1 (.slice b off len cap 0) (ζ (len-1-i)) s=.ok (.ptr b (off+(len-1-i)*1)) s:=iq J (.inl rfl) s;have q:∀s,R .add ν true (I i) ϖ s=.ok (ζ (i+1)) s:=λs=>AU
  simp only[a1,xl,ix,jM,y,w,u,Fj _ _ (show i<8 from J),Ks,BE,r,xz,a,q];have p:off+(len-1-i)*1=off+len-(i+1):=J
  have o:off+len-i=off+len-(i+1)+1:=J
  have vu:=kV i n
  have l:bC (bC L (off+len-i) (al (be i n))) (off+len-(i+1)) [bG (UInt8.ofNat (n/256^i%256))]=bC L (off+len-(i+1)) (al (be (i+1) n)):=by
   rw[o,D8 _ _ _ _ afI,GK];rfl
  have z:(bG (UInt8.ofNat (n/256^i%256))).bY=[bG (UInt8.ofNat (n/256^i%256))]:=rfl;rw[p,z,l];refine⟨⟨rfl,rfl,aeD⟩,next (fu-1) _ _ J ⟨i+1,J,rfl,e.set _ (.inl V) J,f,ao ..⟩⟩
 .have a1:R .lss ν false (I i) (I len) s=.ok Θ s:=by rw[au,cU,jo J]
  simp only[a1,ll,ii];have C:i=len:=J
  subst C;rw[Pi]at a;exact⟨e,f,a⟩
end
def bO (n:Nat):Nat:=if n<=64 then 0 else (n+479)/480
def FH {Z:O}(f:n<=4000000000):Rq0 179 [I n] Z λv Z'=>v=I (bO n)/\Z'=Z:=by
 refine bE ?_;rw[apQ];have a:R .leq ν true (I n) (I 64) Z=.ok (.bool (decide (n<=64))) Z:=Hl
 have d:R .add ν true (I n) (I 480) Z=.ok (ζ (n+480)) Z:=AU
 have c:R .sub ν true (ζ (n+480)) ϖ Z=.ok (ζ (n+479)) Z:=CS
 have b:R .quo ν true (ζ (n+479)) (I 480) Z=.ok (ζ ((n+479)/480)) Z:=by
  have e:R .quo ν true (ζ (n+479)) (I 480) Z=.ok (I (IntKind.i64.wrap (Int.tdiv ((n+479:Nat):Int) 480))) Z:=rfl;have a:Int.tdiv ((n+479:Nat):Int) 480=(((n+479)/480:Nat):Int):=rfl;rw[e,a,bt J]
 unfold bO;simp only[a,xl,d,c,b]
 by_cases h:n<=64
 .rw[jp h,gq rfl,gq h];exact⟨rfl,gt⟩
 .rw[jo h,B tW,B h];exact⟨rfl,gt⟩
def qY.len {page:Nat}(h:qY G ps page v):ps.length=(v.length+479)/480:=by
 induction ps generalizing page v with
 |nil=>obtain⟨_,rfl⟩:=h;rfl
 |cons p ps a=>
  obtain⟨_,c,_,next,_,_,b⟩:=h;have:=a b;rw[st]at this;have:=TK.2 c;rw[lx];omega
section
variable {τ:Nat} {π:PI} {Z Z':O}
def Nr {f:K}{c:dq}(d:Nat->GM->δ Nat->Nat->δ Γ->O->Prop)
 (hT:∀q G ps page v s,d q G ps page v s->Tg τ π s G/\qY G ps page v/\s.m.g q=Φ (Ϛ (ba c))/\q<s.nx)
 (hS:∀q G p ps v s next,d q G (p::ps) p v s->G.cont p=.dX next (v.take 480)->qY G ps next (v.drop 480)->∀s' b,Kp [] s s'->(∀X,(∀b∈X,b<s.nx)->Sl s' X b 1 (al (v.take 480++List.replicate (480-(v.take 480).length) 0)))->eJ Rq0 f [I p,b] s' λx F=>x=I 0/\∃G',d q G' ps next (v.drop 480) F)
    (h0:∀j q,Kp [] Z j->Z.nx<=q->q<j.nx->j.m.g q=Φ (Ϛ (ba c))->d q G ps c.dX v j) (hl:ps.length=bO c.size) (aa:c.size<=8192):
 Rq0 196 [.ptr τ 0,.agg (ba c),f] Z λx Z'=>x=I 0/\∃q G',Z.nx<=q/\d q G' [] 0 [] Z':=by
 refine bE ?_;rw[apE];rw[bz,aN];refine⟨rfl,?_⟩;have k1:Kp [] Z (O.new Z (Ϛ (ba c))):=(Δ [] Z).new _;have W:(O.new Z (Ϛ (ba c))).m.g Z.nx=Φ (Ϛ (ba c)):=ay _ _;have n1:(O.new Z (Ϛ (ba c))).nx=Z.nx+1:=rfl;generalize O.new Z (Ϛ (ba c))=j at*;have i1:=h0 j Z.nx k1 (hI _) J W
 have BY:∀o x,(ba c)[o]?=Φ x->∀s,s.m.g Z.nx=Φ (Ϛ (ba c))->∀u:K->Prop,fl o (.ptr Z.nx 0) s u=u x:=by
  intro o x hx s hs u;simp only[fl,ly,hs,hx]
 rw[BY 2 (I c.dX) rfl j W,bU,BY 3 (I c.size) rfl j W];refine(FH (n:=c.size) J).same ?_;simp only[ke]
 have ac:ps.length<=1000000:=by
  rw[hl];unfold bO;split<;>omega
 rw[<-hl];refine bD (λfu vs s=>∃(G':GM) (i page:Nat) (w:δ Nat) (e:δ Γ),fu+i=ps.length/\w.length=fu/\vs=[.ptr τ 0,f,.ptr Z.nx 0,I page,I ps.length,I i]/\d Z.nx G' w page e s) ?_ (n:=ps.length) ⟨G,0,c.dX,ps,v,rfl,rfl,rfl,i1⟩;rintro fu vs s k ⟨G',i,page,w,e,hi,z,rfl,r⟩ next;obtain⟨C,hC,hg,N⟩:=hT _ _ _ _ _ _ r;simp only[DJ,dd]
 by_cases hc:i<ps.length
 .rw[jp hc,gq rfl]
  obtain⟨p,a,rfl⟩:∃p a,w=p::a:=by
   cases w with
   |nil=>simp at z;omega
   |cons p a=>exact⟨p,a,rfl⟩
  obtain⟨rfl,jg,hu,nx,BX,Dj,S⟩:=hC;refine C.get' ?_;refine(RT C.pg hu).mono ?_;rintro _ s4 ⟨k4,BH,b,rfl,g4,b1,b2⟩;rw[BX]at BH g4;have T:=(k4.keep Z.nx N V).trans hg;have e1:R .eql ψ true μ ϖ s4=.ok Θ s4:=rfl;have e2:R .gtr ν true (I c.size) (I 8192) s4=.ok Θ s4:=aeU
  have e3:R .neq ψ true μ μ s4=.ok Θ s4:=rfl;have P:(ba c)[3]?=Φ (I c.size):=rfl;have D:(al (jE (.dX nx (e.take 480)))).length=512:=by simpa using BH
  have M:∀X,(∀b∈X,b<s.nx)->Sl s4 X (.slice b 0 512 512 1) 1 (al (jE (.dX nx (e.take 480)))):=λX Q=>.inr ⟨b,0,512,512,1,rfl,by rw[D],⟨hI _,.inr rfl⟩,.inr ⟨λh=>by have:=Q b h;omega,b2,_,_,_,g4,J,QN⟩⟩;obtain⟨VB,p1,p2⟩:=(M [] V).hi (n:=512) J (by rw[D]) (h:=4) J s4
  have Kc:(al (jE (.dX nx (e.take 480)))).take (4*1)=al (be 4 nx):=by
   unfold jE;rw[bQ,SM (by rw[bP,kV])]
  rw[Kc]at p2;have L:aQ 1 (.slice b 0 512 512 1) ν (Φ (I 4)) s4=.ok VB s4:=p1;simp only[DK,e1,ii,gG,vr,T,P,e2,GT,e3,L];refine(Kt p2 (by rw[kV];omega) (EL _ (by rw[kV];omega))).same ?_;rw[Uz 4 nx (by have:nx<=2147483647:=Dj;omega)];have ab:(e.take 480).length<=480:=OH
  have Y:((al (jE (.dX nx (e.take 480)))).drop (4*1)).take ((484-4)*1)=al (e.take 480++List.replicate (480-(e.take 480).length) 0):=by
   unfold jE;rw[bQ,List.drop_left' (by rw[bP,kV]),bQ,WF,lw (by rw[bP];omega),bQ]
   congr 1
   unfold al;rw[<-L3,List.take_replicate,so]
   congr 2;omega
  obtain⟨y,p3,_⟩:=(M [] V).both (n:=512) J (by rw[D]) (l:=4) (h:=484) J J s4;have H:aQ 1 (.slice b 0 512 512 1) (Φ (I 4)) (Φ (I 484)) s4=.ok y s4:=p3;rw[H,af];refine uM (hS Z.nx G' page a e s nx r BX S s4 y k4 λX Q=>?_) ?_
  .obtain⟨ad,q3,q4⟩:=(M X Q).both (n:=512) J (by rw[D]) (l:=4) (h:=484) J J s4;rw[p3]at q3;cases q3;rw[Y]at q4;exact q4
  .rintro _ s6 ⟨rfl,G2,xB⟩;have e4:R .neq ψ true μ μ s6=.ok Θ s6:=rfl;rw[e4,af,ag,B tW,fV i J,af];exact next (fu-1) _ _ J ⟨G2,i+1,nx,a,_,J,by simp at z;omega,rfl,xB⟩
 .rw[jo hc,B tW];have:w=[]:=sS.1 J;subst this;obtain⟨rfl,rfl⟩:=hC;have e5:R .neq ψ true (ζ 0) μ s=.ok Θ s:=rfl;rw[e5,af,ag,B tW];exact⟨gt,Z.nx,G',hI _,r⟩
end
end
section
variable {τ:Nat} {π:PI} {Z Z':O} {G:GM}
def Tg.yu (h:Tg τ π Z G){X:δ Nat}(a:Kp X Z Z')(c:∀b∈X,b∉π.all/\b≠τ):Tg τ π Z' G:=by
 obtain⟨ty,g,d⟩:=h.get;exact⟨h.pg.keep a λb e hh=>(c b hh).1 e,ov h.lt a.nx,h.not,⟨ty,g,(a.keep τ h.lt λhh=>(c τ hh).2 rfl).trans d⟩,a.fresh h.fr⟩
structure aeH (τ:Nat)(π:PI)(Z:O)(G:GM)(c:dq)(bx:Nat)(aqT:List UInt8)(q:Nat)(ps:List Nat)(page:Nat)(v:List UInt8)(s:O)(x:K)(F:List Nat)(taken pad:List UInt8):Prop where
 tg:Tg τ π s G
 chain:qY G ps page v
 box:s.m.g q=some (.cells (ba c) 255 false)
 lt:q<s.nx
 ne:q≠bx
 gbx:s.m.g bx=some (.cells [x] 126 false)
 bl:bx<s.nx
 own:Own s x 1 5 (al (taken++pad)) F
 F:∀b∈F,bx<b/\b<s.nx/\b≠q
 tot:aqT=taken++v
 arE:v≠[]->pad=[]
 aDb:pad.length<=480
 kp:Kp [] Z s
def Hp (h:Tg τ π Z G){c:dq}{v:δ Γ}{ps:δ Nat}(hc:c.ok true)(hv:Cw G c v ps):Rq0 150 [.ptr τ 0,.agg (ba c)] Z λx Z'=>x=.tuple [.str v,μ]/\Kp [] Z Z':=by
 refine bE ?_;rw[aqi];rw[bz,aN];refine⟨rfl,?_⟩;have k1:Kp [] Z (O.new Z (Ϛ (ba c))):=(Δ [] Z).new _;have P:(O.new Z (Ϛ (ba c))).m.g Z.nx=Φ (Ϛ (ba c)):=ay _ _;have n1:(O.new Z (Ϛ (ba c))).nx=Z.nx+1:=rfl;generalize O.new Z (Ϛ (ba c))=s1 at*
 have L:∀o x,(ba c)[o]?=Φ x->∀s,s.m.g Z.nx=Φ (Ϛ (ba c))->∀j:K->Prop,fl o (.ptr Z.nx 0) s j=j x:=by
  intro o x hx s hs j;simp only[fl,ly,hs,hx]
 rw[L 2 (I c.dX) rfl s1 P,L 1 (.str c.value) rfl s1 P];rcases hv with⟨h0,rfl,rfl⟩|⟨h0,l,Ew,Kg,hC⟩
 .have e1:R .eql ψ true (I c.dX) μ s1=.ok ι s1:=by rw[h0];rfl
  rw[e1,af,ag,gq rfl];exact⟨rfl,k1⟩
 .have e1:R .eql ψ true (I c.dX) μ s1=.ok Θ s1:=by rw[au,cn,jo J]
  rw[e1,af,ag,B tW,bW,aP];have k2:Kp [] s1 (O.new s1 (ϸ [.ae])):=(Δ [] s1).new _;have g2:(O.new s1 (ϸ [.ae])).m.g s1.nx=Φ (ϸ [.ae]):=ay _ _;have n2:(O.new s1 (ϸ [.ae])).nx=s1.nx+1:=rfl;generalize O.new s1 (ϸ [.ae])=s2 at*;have lV:=(k2.keep Z.nx J V).trans P;have nL:=k1.trans k2 V;have t2:=h.still nL;rw[aG (n:=4) lV rfl,af,ju,af];refine(Nr (Z:=s2) (τ:=τ) (π:=π) (c:=c) (G:=G) (ps:=ps) (v:=v) (λq G' ps page v' s=>G'=G/\∃x F a i,aeH τ π Z G c s1.nx v q ps page v' s x F a i/\Z.nx<q/\s.m.g Z.nx=Φ (Ϛ (ba c))) ?_ ?_ ?_ ?_ ?_).mono ?_
  .rintro q G' ps page v' s ⟨rfl,x,F,a,i,d,_⟩;exact⟨d.tg,d.chain,d.box,d.lt⟩
  .rintro q G' p rz v' s nx ⟨rfl,x,F,a,i,d,hq,r⟩ BX N s' b u D;have X:v'≠[]:=by obtain⟨_,h,_⟩:=d.chain;exact h
   have Y:=d.arE X;subst Y;have ah:=u.nx;rw[dv];simp only[ow,ut];refine bE ?_;rw[apD];have gbx:=(u.keep _ d.bl V).trans d.gbx;have ab:=d.own.keep u λb f=>⟨(d.F b f).2.1,V⟩;obtain⟨m,q1,q2⟩:=(D [] V).src [ϕ]
   have Mo:(v'.take 480++List.replicate (480-(v'.take 480).length) 0).length=480:=by
    have:(v'.take 480).length<=480:=OH
    rw[km,F0];omega
   have hm:m=480:=by rw[bP,Mo]at q1;omega
   subst hm;have ac:a.length<=8192:=by have:=congrArg List.length d.tot;rw[km]at this;omega
   obtain⟨z,k,F',a1,a2,w,a4⟩:=ab.append (n:=480) (bytes:=1) (T:=al (v'.take 480++List.replicate (480-(v'.take 480).length) 0)) J (by rw[bP,Mo]) (bK _) (λb f=>by have:=(d.F b f).2.1;omega) (by rw[bP,bP,Mo,km];simp;omega);have S:s1.nx∉F:=λh=>by have:=(d.F _ h).1;omega
   have Q:=(w.keep _ (by have:=d.bl;omega) S).trans gbx;obtain⟨o1,o2⟩:=a2.cI;have mL:bC [x] 0 [z]=[z]:=rfl;simp only[av,gbx,lW,io,q2,a1,GE,Q,o2,mL];refine⟨⟨rfl,Vf,V⟩,gt,G',rfl,z,F',a++v'.take 480,List.replicate (480-(v'.take 480).length) 0,?_,hq,?_⟩
   .have C:∀b∈F',(b∈F\/s'.nx<=b)/\b<k.nx:=λb f=>⟨(a4 b f).1.imp id λh=>J,(a4 b f).2⟩;have ai:=w.nx;have aa:=(d.kp.trans u V).trans w λb f=>.inr (by have:=(d.F b f).1;omega);have fJ:∀b,Z.nx<=b->b∉π.all/\b≠τ:=λb f=>⟨λhh=>afb,λe=>abg⟩;have jh:Kp [s1.nx] k (O.set k s1.nx (ϸ [z])):=(Δ _ k).set _ (.inl V) (by have:=d.bl;omega);refine⟨?_,N,?_,by have:=d.lt;simp;omega,d.ne,ao ..,by have:=d.bl;simp;omega,?_,λb f=>?_,?_,?_,?_,?_⟩
    .exact(((d.tg.still u).yu w λb f=>fJ b (by have:=(d.F b f).1;omega)).yu jh λb f=>fJ b (by simp at f;omega))
    .rw[ar _ _ _ _ d.ne,w.keep q (by have:=d.lt;omega) (λh=>(d.F q h).2.2 rfl),u.keep q d.lt V];exact d.box
    .have e:al (a++v'.take 480++List.replicate (480-(v'.take 480).length) 0)=al (a++[])++al (v'.take 480++List.replicate (480-(v'.take 480).length) 0):=by
      rw[<-bQ];simp
     rw[e]
     exact a2.mono λb f=>ar _ _ _ _ λe=>by
      rcases(C b f).1 with h|h
      .have:=(d.F b h).1;omega
      .have:=d.bl;omega
    .refine⟨?_,(C b f).2,?_⟩
     .rcases(C b f).1 with h|h
      .exact(d.F b h).1
      .have:=d.bl;omega
     .rcases(C b f).1 with h|h
      .exact(d.F b h).2.2
      .have:=d.lt;omega
    .rw[we,CV];exact d.tot
    .intro jg
     have:480<v'.length:=by
      rcases wl 480 v'.length with h|h
      .exact h
      .exact absurd (ys h) jg
     rw[pu,us J];rfl
    .rw[F0];omega
    .exact aa.set _ (.inr J) (by have:=d.bl;omega)
   .have h3:Z.nx<s.nx:=by have:=d.bl;omega
    rw[ar _ _ _ _ J,w.keep Z.nx J (λh=>by have:=(d.F _ h).1;omega),u.keep Z.nx h3 V];exact r
  .intro s3 q y ad L8 M;refine⟨rfl,.ae,[],[],[],⟨t2.still y,hC,M,L8,J,(y.keep _ J V).trans g2,by have:=y.nx;omega,.inl ⟨rfl,rfl,rfl⟩,V,V,λ_=>rfl,V,nL.trans y V⟩,J,(y.keep _ J V).trans lV⟩
  .rw[hC.len,l];unfold bO;rw[B J]
  .omega
  .rintro _ s3 ⟨rfl,q,G',hq,rfl,x,F,a,i,d,L8,r⟩;have H:=d.tot;rw[zo]at H;have D:Sl s3 [] x 1 (al (a++i)):=d.own.sl λb f=>⟨V,(d.F b f).2.1⟩;have e2:R .neq ψ true μ μ s3=.ok Θ s3:=rfl;have hlen:=D.len (a++i).length V J s3;have e3:R .lss ν false (I (a++i).length) (I c.size) s3=.ok Θ s3:=by rw[dd,jo (by rw[l,H,km];omega)]
   obtain⟨v',p1,p2⟩:=D.hi (n:=(a++i).length) J V (h:=c.size) (by rw[l,H,km];omega) s3
   have Kc:(al (a++i)).take (c.size*1)=al v:=by
    rw[bQ,Fi,l,H,SM V]
   rw[Kc]at p2
   have W:∀j:K->Prop,gG (Φ true) 3 (.ptr Z.nx 0) s3 j=j (I c.size):=λj=>by
    simp only[gG,aW];exact L 3 (I c.size) rfl s3 r j
   simp only[e2,ii,av,d.gbx,lW,io,hlen,W,e3,GT,L 3 (I c.size) rfl s3 r,p1,p2.str];exact⟨gt,d.kp⟩
end
section
variable {ps:δ Nat}{n:Nat}{d:δ Γ}{g:Bool}
def iW (G:GM)(ps:δ Nat):GM:=ps.foldl GM.drop G
structure aav (G:GM)(ps:List Nat):Prop where
 ok:wb (iW G ps)
 bV:∀q,(iW G ps).bV q↔G.bV q/\q∉ps
 free:(iW G ps).bT=G.bT+ps.length
 cont:∀q,(iW G ps).cont q=G.cont q
 root:(iW G ps).root=G.root
 aO:(iW G ps).aO=G.aO
def aaf {G:GM}(h:wb G)(i:ps.Nodup)(j:∀p∈ps,G.bV p):aav G ps:=by
 induction ps generalizing G with
 |nil=>exact⟨h,λq=>by simp[iW],rfl,λ_=>rfl,rfl,rfl⟩
 |cons p ps k=>
  rw[me]at i;have f:=qV h (j p V);have:=k f.ok i.2 λq hq=>(f.bV q).2 ⟨j q QU,λe=>i.1 (e▸hq)⟩;have e:iW G (p::ps)=iW (G.drop p) ps:=rfl;refine⟨by rw[e];exact this.ok,λq=>?_,?_,λq=>by rw[e,this.cont];rfl,by rw[e,this.root];rfl,by rw[e,this.aO];rfl⟩
  .rw[e,this.bV,f.bV];simp only[ip,rt];constructor
   .rintro⟨⟨a,b⟩,c⟩;exact⟨a,b,c⟩
   .rintro⟨a,b,c⟩;exact⟨⟨a,b⟩,c⟩
  .rw[e,this.free,f.free,lx];omega
def Cg (G:GM)(ps:δ Nat):(iW G ps).eu.length<=G.eu.length+ps.length:=by
 induction ps generalizing G with
 |nil=>exact hI _
 |cons p ps a=>
  have:=a (G.drop p);have:=yF G p;show(iW (G.drop p) ps).eu.length<=_;rw[lx];omega
def Jt (G:GM)(ps:δ Nat)(p:Nat):iW G (ps++[p])=(iW G ps).drop p:=by unfold iW;rw[List.foldl_append];rfl
section
variable {τ:Nat} {π:PI} {Z Z':O} {G:GM}
def EA (h:Tg τ π Z G){c:dq}{v:δ Γ}(hc:c.ok true)(hv:Cw G c v ps)(N:ps.Nodup):Rq0 175 [.ptr τ 0,.agg (ba c)] Z λx Z'=>x=I 0/\Kp π.W Z Z'/\Tg τ π Z' (iW G ps):=by
 refine bE ?_;rw[apU];rw[bz,HH];refine⟨rfl,?_⟩;have k1:Kp [] Z (O.new Z (Ê [.ptr τ 0])):=(Δ [] Z).new _;have g1:(O.new Z (Ê [.ptr τ 0])).m.g Z.nx=Φ (Ê [.ptr τ 0]):=ay _ _;have n1:(O.new Z (Ê [.ptr τ 0])).nx=Z.nx+1:=rfl;generalize O.new Z (Ê [.ptr τ 0])=s1 at*;rw[bz,aN];refine⟨rfl,?_⟩;have Q:Kp [] s1 (O.new s1 (Ϛ (ba c))):=(Δ [] s1).new _;have g2:(O.new s1 (Ϛ (ba c))).m.g s1.nx=Φ (Ϛ (ba c)):=ay _ _;have n2:(O.new s1 (Ϛ (ba c))).nx=s1.nx+1:=rfl;generalize O.new s1 (Ϛ (ba c))=s2 at*;have P:=(Q.keep Z.nx J V).trans g1;have u:=k1.trans Q V;have L:=h.still u;have qS:(ba c)[2]?=Φ (I c.dX):=rfl;simp only[fl,ly,g2,qS];rcases hv with⟨X,rfl,rfl⟩|⟨X,z,Ew,Kg,T⟩
 .have e1:R .eql ψ true (I c.dX) μ s2=.ok ι s2:=by rw[X];rfl
  rw[e1,af,ag,gq rfl];exact⟨gt,u.mono V,L⟩
 .have e1:R .eql ψ true (I c.dX) μ s2=.ok Θ s2:=by rw[au,cn,jo J]
  simp only[e1,ll,ii,P,lW,io];rw[aG (n:=4) g2 rfl,af,ju,af];have M:=h.Vp;have U8:Z.nx∉π.W:=λhh=>by have:=M _ hh;omega
  refine(Nr (Z:=s2) (τ:=τ) (π:=π) (c:=c) (G:=G) (ps:=ps) (v:=v) (λq G' i page v' s=>∃done,G'=iW G done/\ps=done++i/\Tg τ π s G'/\qY G' i page v'/\s.m.g q=Φ (Ϛ (ba c))/\q<s.nx/\Z.nx<=q/\s.m.g Z.nx=Φ (Ê [.ptr τ 0])/\Kp π.W Z s) ?_ ?_ ?_ ?_ ?_).mono ?_
  .rintro q G' i page v' s ⟨done,_,_,a,b,c,d,_⟩;exact⟨a,b,c,d⟩
  .rintro q G' p i v' s nx ⟨done,rfl,e2,a1,a2,a3,a4,a5,a6,l⟩ BX H s' b k lP;rw[dv];simp only[ow,ut];refine bE ?_;rw[apw]
   have C:Z.nx<s.nx:=by
    have:=l.nx;rcases wl Z.nx s.nx with h1|h1
    .exact h1
    .omega
   have Y:=(k.keep Z.nx C V).trans a6;have o:=a1.still k;rw[av,Y,ak,io,an];refine o.get' ?_;have j:(iW G done).bV p:=by obtain⟨_,_,y,_⟩:=a2;exact y
   refine(FF o.pg j).mono ?_;rintro _ aa ⟨rfl,f,r⟩;have IQ:=k.nx;have F:∀x,Z.nx<=x->x∉π.W:=λx S hh=>by have:=M x hh;omega
   refine⟨rfl,_,done++[p],(Jt ..).symm,by rw[e2];simp,o.of f r,?_,(f.keep q J (F q a5)).trans ((k.keep q a4 V).trans a3),by have:=f.nx;omega,a5,(f.keep Z.nx J U8).trans Y,(l.trans k V).trans f lk⟩
   have Vc:p∉i:=by
    rw[e2]at N;have:=(zy.1 N).2.1;exact(me.1 this).1
   exact H.kept λx S=>⟨λy=>((qV a1.pg.Z7 j).bV x).2 ⟨y,λe=>Vc (e▸S)⟩,rfl⟩
  .intro s3 q w ab L8 D;refine⟨[],rfl,rfl,L.still w,T,D,L8,J,(w.keep _ J V).trans P,(u.mono V).trans w V⟩
  .rw[T.len,z];unfold bO;rw[B J]
  .omega
  .rintro _ s3 ⟨rfl,q,G',_,done,rfl,e2,a1,_,_,_,_,_,l⟩;rw[zo]at e2;subst e2;exact⟨rfl,l,a1⟩
def Iq (b:n<=100000)(s:O):uo 5 1 [ϕ] (I n) (I n) s=.ok (.slice s.nx 0 n n 0) (O.new s (Ϡ (al (List.replicate n 0)))):=by
 have e:uo 5 1 [ϕ] (I n) (I n) s=bF (Bool.and (Nat.ble n n) (Bool.and (Nat.ble (Nat.mul 1 n) 281474976710656) (Nat.ble n 9223372036854775807)))
  (.ok (.slice s.nx 0 n n 0) ⟨s.m.put s.nx (Φ (Ϡ (cr n [ϕ]))),s.nx+1⟩) .bad:=rfl
 have a:Nat.mul 1 n=n:=Li n;rw[e,QK,aS,gq (by simp only[mZ,nR,a];omega)];rfl
def R5 {b off cap:Nat}{L:δ K}{t:TypeId}{s:O}(a:s.m.g b=Φ (.cells L t g))(f:d.length<=n)(i:off+d.length<=L.length):
 ∃s',gL true 1 (.slice b off n cap 0) (.str d) s=.ok (I d.length) s'/\s'.nx=s.nx/\s'.m.g b=Φ (.cells (bC L off (al d)) t g)/\∀q,q≠b->s'.m.g q=s.m.g q:=by
 have e:gL true 1 (.slice b off n cap 0) (.str d) s=(match cellsOf true 1 (min d.length n) (.str d) s with
  |some t=>bF (Nat.beq (min d.length n) 0) (Ar .i64 s 0)
   (bF (Bool.and (bh t) (Bool.or (Nat.beq 0 0) (Nat.ble 1 cap)))
    (match s.m.g b with
    |some (.cells l ty g)=>Option.rec (Option.rec .bad (λs'=>Ar .i64 ⟨s.m.put b (Φ (.cells s' ty g)),s.nx⟩ (min d.length n)) (Du l off t (off+cap*0))) (λs'=>Ar .i64 ⟨s.m.put b (Φ (.cells s' ty g)),s.nx⟩ (min d.length n)) (eB l off t)
    |_=>.bad) .bad)
  |none=>.bad):=rfl
 have k:cellsOf true 1 d.length (.str d) s=Φ (al d):=by
  have:cellsOf true 1 d.length (.str d) s=if d.length<=d.length then Φ ((d.take d.length).map bG)else ν:=rfl
  rw[this,gq (hI _),List.take_length];rfl
 rw[e,us f,k];dsimp only
 by_cases j:d.length=0
 .have:=sS.1 j;subst this;refine⟨s,rfl,rfl,?_,λ_ _=>rfl⟩;rw[a];have:bC L off (al [])=L:=Bo L off;rw[this]
 .have p:Nat.beq d.length 0=φ:=by cases h:Nat.beq d.length 0 with|false=>rfl|true=>rw[md]at h;omega
  have o:eB L off (al d)=Φ (bC L off (al d)):=by unfold eB;rw[gq (by rw[bP];exact i)];rfl
  rw[p,bK,a];dsimp only;rw[o];exact⟨O.set s b (.cells (bC L off (al d)) t g),rfl,rfl,ao ..,λq c=>ar _ _ _ _ c⟩
def abO (h:Tg τ π Z G){f a c:Nat}{ty:TypeId}(T:0<G.bT)(Y:Z.m.g f=Φ (.cells [.ptr τ 0] ty g))(h8:Z.m.g a=Φ (Ϝ [I c]))(l1:f<Z.nx)(l8:a<Z.nx)(w1:f∉π.all)(S:a∉π.all)(z:a≠τ)(jg:f≠a)(hd:d.length<=480)(Dj:c<=kj):
 Rq0 220 [.str d,.ptr f 0,.ptr a 0] Z λx Z'=>x=I 0/\Kp (a::π.W) Z Z'/\Tg τ π Z' (G.alloc.put G.dI (.dX c d))/\Z'.m.g a=Φ (Ϝ [I G.dI]):=by
 refine bE ?_;rw[apm];rw[av,Y,ak,io,an];refine h.get' ?_;refine(Nb h.pg T).mono ?_;rintro _ s1 ⟨rfl,k,p1⟩;have t1:=h.of k p1;have ha:=vL h.pg.Z7 T;have v:f∉π.W:=λhh=>w1 (PI.EM hh);have j:a∉π.W:=λhh=>S (PI.EM hh);have g1:=(k.keep f l1 v).trans Y;have g8:=(k.keep a l8 j).trans h8;have n1:=k.nx;have e1:R .neq ψ true μ μ s1=.ok Θ s1:=rfl;have M:=Iq (n:=512) J s1;have N:uo 5 1 [ϕ] (I 512) (I 512) s1=.ok (.slice s1.nx 0 512 512 0) (O.new s1 (Ϡ (al (List.replicate 512 0)))):=M;simp only[e1,zY,ii,N,aP,aZ];have p:Kp [] s1 (O.new s1 (Ϡ (al (List.replicate 512 0)))):=(Δ [] s1).new _;have gb:(O.new s1 (Ϡ (al (List.replicate 512 0)))).m.g s1.nx=Φ (Ϡ (al (List.replicate 512 0))):=ay _ _;have n2:(O.new s1 (Ϡ (al (List.replicate 512 0)))).nx=s1.nx+1:=rfl;generalize O.new s1 (Ϡ (al (List.replicate 512 0)))=s2 at*;have l:=(p.keep a J V).trans g8;have lV:=(p.keep f J V).trans g1;have t2:=t1.still p;have L:aQ 1 (.slice s1.nx 0 512 512 0) ν (Φ (I 4)) s2=.ok (.slice s1.nx 0 4 512 0) s2:=rfl;simp only[L,rb,av,l,io];refine(VH (b:=s1.nx) (off:=0) (len:=4) (cap:=512) (n:=c) gb J V J (by have:c<=2147483647:=Dj;omega)).mono ?_;rintro _ s3 ⟨y,n3,g3⟩
 have xj:bC (al (List.replicate 512 0)) 0 (al (be 4 c))=al (be 4 c)++al (List.replicate 508 0):=by
  unfold bC;rw[S6,ow,bP,kV]
  congr 1
 rw[xj]at g3;have P:aQ 1 (.slice s1.nx 0 512 512 0) (Φ (I 4)) ν s3=.ok (.slice s1.nx 4 508 508 0) s3:=rfl;have NP:(al (be 4 c)++al (List.replicate 508 0)).length=512:=by rw[km,bP,bP,kV,F0]
 obtain⟨s4,c1,c2,c3,r⟩:=R5 (b:=s1.nx) (off:=4) (n:=508) (cap:=508) (d:=d) g3 J J
 have nv:bC (al (be 4 c)++al (List.replicate 508 0)) 4 (al d)=al (jE (.dX c d)):=by
  have e:=rO (al (be 4 c)) (al (List.replicate 508 0)) (al d);rw[bP,kV]at e;rw[e];unfold jE;rw[bQ,bQ]
  congr 2
  unfold al;rw[<-JO,aNP,so]
 rw[nv]at c3;have H:=(y.keep a J xI).trans l;have F:=(r a J).trans H;have Ax:=(r f J).trans ((y.keep f J xI).trans lV);have Mc:bC [I c] 0 [I G.dI]=[I G.dI]:=rfl;simp only[sE,P,af,c1,GE,F,jR,Mc];refine⟨⟨rfl,rfl,V⟩,?_⟩;have k4:Kp [s1.nx] s3 s4:=⟨J,λq i hn=>r q (by simpa using hn),λlR q i=>by rw[r q J];exact lR q J⟩;have k5:Kp [a] s4 (O.set s4 a (Ϝ [I G.dI])):=(Δ _ s4).set _ (.inl V) J;have D:(O.set s4 a (Ϝ [I G.dI])).m.g a=Φ (Ϝ [I G.dI]):=ao ..;have XN:(O.set s4 a (Ϝ [I G.dI])).m.g f=Φ (.cells [.ptr τ 0] ty g):=(ar _ _ _ _ jg).trans Ax;have C:(O.set s4 a (Ϝ [I G.dI])).m.g s1.nx=Φ (Ϡ (al (jE (.dX c d)))):=(ar _ _ _ _ J).trans c3;have n5:(O.set s4 a (Ϝ [I G.dI])).nx=s3.nx:=c2;generalize O.set s4 a (Ϝ [I G.dI])=o at*;have fJ:s1.nx∉π.all/\s1.nx≠τ:=⟨λhh=>afd,λe=>abg⟩;have WZ:Kp [s1.nx,a] s2 o:=((y.mono V).trans k4 V).trans k5 V
 have u:=t2.yu WZ λb X=>by
  simp at X;rcases X with rfl|rfl
  .exact fJ
  .exact⟨S,z⟩
 simp only[XN,lW,io];refine u.get' ?_;have Q:s1.nx<o.nx:=J
 have s:=KE (nx:=c) (d:=d) J
 have lP:Sl o [π.bn,π.bc] (.slice s1.nx 0 512 512 0) 1 (al (jE (.dX c d))):=.inr ⟨s1.nx,0,512,512,0,rfl,by rw[bP,s],⟨hI _,.inl rfl⟩,.inr ⟨λhh=>by
  have:s1.nx∈π.W:=by unfold PI.W;simp at hh;rcases hh with h|h<;>simp[h]
  exact fJ.1 (PI.EM this),Q,_,_,_,C,by rw[bP,s];omega,by rw[tu,lw (by rw[bP,s];omega)]⟩⟩
 refine(Na u.pg ((ha.bV _).2 (.inr rfl)) lP s).mono ?_;rintro _ s6 ⟨rfl,w,p6⟩;have lH:Kp [s1.nx,a] s1 o:=(p.mono V).trans WZ V;refine⟨rfl,?_,u.of w p6,(w.keep a J j).trans D⟩;refine((k.mono (by intro q i;simp[i])).trans lH (by intro q i;simp at i;rcases i with rfl|rfl;right;omega;left;simp)).trans w (by intro q i;simp[i])
end
end
