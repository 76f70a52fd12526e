import Derived.Test.YtomffjeofpafnaaGreatDoorPagC
namespace Lim
open Go
noncomputable section
set_option linter.defProp false
set_option maxRecDepth 100000
structure Tg (τ:Nat)(π:PI)(st:St)(G:GM):Prop where
 pg:Pg π st G
 lt:τ<st.nx
 not:τ∉π.all
 get:∃ty g,st.m.g τ=some (.cells [.ptr π.p 0] ty g)
 fr:eA st
section
variable {τ:Nat} {π:PI} {st st':St} {G:GM}
def PI.DK {b:Nat}(h:b∈π.W):b∈π.all:=by unfold PI.W at h;unfold PI.all;simp at h⊢;rcases h with h|h|h|h<;>simp[h]
def Tg.still (h:Tg τ π st G)(a:Kp [] st st'):Tg τ π st' G:=by
 obtain⟨ty,g,b⟩:=h.get;exact⟨h.pg.still a,aId h.lt a.nx,h.not,⟨ty,g,(a.keep τ h.lt wb).trans b⟩,a.fresh h.fr⟩
def Tg.of (h:Tg τ π st G){G':GM}(a:Kp π.W st st')(b:Pg π st' G'):Tg τ π st' G':=by
 obtain⟨ty,g,c⟩:=h.get;exact⟨b,aId h.lt a.nx,h.not,⟨ty,g,(a.keep τ h.lt λhh=>h.not (PI.DK hh)).trans c⟩,a.fresh h.fr⟩
def Tg.get' (h:Tg τ π st G){k:CV->Prop}(a:k (.ptr π.p 0)):eQ 0 (.ptr τ 0) st k:=by
 obtain⟨ty,g,b⟩:=h.get;simp only[eQ,bj,ah,af,az,b,ar,aHN,aHG,aw];exact a
def Tg.TH (h:Tg τ π st G):∀b∈π.W,b<st.nx:=h.pg.TH
def zU (h:Tg τ π st G){page:Nat}{n:bo}(f:nP G page n):R 90 [.ptr τ 0,I page] st (xB n st):=by
 refine bK ?_;rw[w90];have v:Kp [] st (St.new st (.cells [.bool false,.ae,.ae] 105 false)):=(Kp.refl [] st).new _;have L:(St.new st (.cells [.bool false,.ae,.ae] 105 false)).m.g st.nx=some (.cells [.bool false,.ae,.ae] 105 false):=au _ _;have n1:(St.new st (.cells [.bool false,.ae,.ae] 105 false)).nx=st.nx+1:=rfl;rw[cz,aP];generalize St.new st (.cells [.bool false,.ae,.ae] 105 false)=s1 at*;have h1:=h.still v;refine h1.get' ?_;refine(P6 h1.pg f.bW).mono ?_;rintro _ s2 ⟨o,hl,b,rfl,A,b1,T⟩;rw[f.cont]at hl A;have n2:=o.nx;have Q:aj .eql (some .int) true (I 0) (.int .i64 1) s2=.ok (.bool false) s2:=rfl;have P:aj .neq (some .int) true (I 0) (.int .i64 0) s2=.ok (.bool false) s2:=rfl;simp only[aD,aI,af,cM,Q,ag,aHH,aHV,aK,aL,P];have V:(ai (iU (.node n))).length=512:=adm
 have F:Sl s2 [] (.slice b 0 512 512 1) 1 (ai (mV n++List.replicate (512-n.size) 0)):=.inr ⟨b,0,512,512,1,rfl,(show(ai (iU (.node n))).length=512*1 by rw[V]),⟨aHK _,.inr rfl⟩,.inr ⟨wb,T,_,_,_,A,uM,by rw[aIn,aHS uM];rfl⟩⟩;have s:=v.trans o wb;have hs:=f.size;refine(Ov (s.fresh h.fr) F f.ok uM).mono ?_;rintro _ c ⟨x,rfl,l,w⟩;have n5:=l.nx;obtain⟨e,d,rfl,C,S⟩:=w [st.nx] zS;obtain⟨x1,x2,Z⟩:=C.bL;obtain⟨Y,y2,W⟩:=S.bL;simp only[aD,aI,af];refine mW rfl rfl acP ?_;have k:Kp [] c (St.new c (.cells [.bool n.leaf,e,d] 105 false)):=(Kp.refl _ c).new _;have i:(St.new c (.cells [.bool n.leaf,e,d] 105 false)).m.g c.nx=some (.cells [.bool n.leaf,e,d] 105 false):=au _ _;have n7:(St.new c (.cells [.bool n.leaf,e,d] 105 false)).nx=c.nx+1:=rfl;generalize St.new c (.cells [.bool n.leaf,e,d] 105 false)=a at*;have p:=(s.trans l wb).trans k wb;have U:=(k.keep st.nx uM wb).trans ((l.keep st.nx uM wb).trans ((o.keep st.nx uM wb).trans L));have B:aj .eql (some .int) true (I 0) (.int .i64 0) a=.ok (.bool true) a:=rfl;have hlen:=(C.mono (k.mono wb)).len n.cells.length (bQ _) uM a
 have j:us (aJ 3 (.ptr c.nx 0) a) λN=>upon (aQ 3 (.ptr st.nx 0) N a) λ_ r=>us (aJ 3 (.ptr st.nx 0) r) λM=>xB n st (.tuple [M,I 0]) r:=by
  have D:bz [.bool false,.ae,.ae] 0 [.bool n.leaf,e,d]=[.bool n.leaf,e,d]:=rfl;rw[aM (n:=3) i rfl,af,aH,U,aS,aT,D];refine⟨⟨rfl,acP,wb⟩,?_⟩;rw[aM (n:=3) (an _ _ _) rfl,af];have E:Kp [st.nx] a (St.set a st.nx (.cells [.bool n.leaf,e,d] 105 false)):=(Kp.refl _ a).set _ (.inl wb) uM;refine⟨_,rfl,p.set _ (.inr (aHK _)) uM,λX J=>?_⟩;have:=(w (X++[st.nx]) (by intro b y;simp at y;rcases y with h|h;have:=J b h;omega;omega)).mono (k.mono wb);exact(this.mono (E.mono wb)).eH (by intro q H;simp[H])
 have u:=f.full;cases z:n.leaf with
 |true=>
  rw[z]at i;simp only[B,af,aG,aIj,iy,ba,ah,az,i,ar,aHN,aHG,aw,cR,aIb,aF,aHH,aHV,bU,ag];exact j
 |false=>
  rw[z]at i u;have K:n.cells≠[]:=by rcases u with h|h;cases h;exact h
  have Ko:=aJu.2 K;have O:aj .eql (some .int) true (I n.cells.length) (.int .i64 0) a=.ok (.bool false) a:=Pe
  simp only[B,af,aG,aIj,iy,ba,ah,az,i,ar,aHN,aHI,aHG,aw,cR,aHY,aF,hlen,O,ag,aHH,aHV];exact j
def O6 (m:Nat):cH m [.int .u8 0]=ai (List.replicate m 0):=by
 induction m with
 |zero=>rfl
 |succ m a=>
  have:cH (m+1) [CV.int .u8 0]=.int .u8 0::cH m [.int .u8 0]:=by simp[cH,aJW]
  rw[this,a];rfl
def om (h:Tg τ π st G){page:Nat}{n:bo}{v:CV}(L:G.bW page)(u:IsNode st [] v n)(N:n.ok)(w:n.size<=512):R 100 [.ptr τ 0,I page,v] st λy st'=>y=I 0/\Kp π.W st st'/\Tg τ π st' (G.put page (.node n)):=by
 have Z:=u;obtain⟨c,a,rfl,h1,h2⟩:=u;refine bK ?_;rw[anI];rw[bS,aT];refine⟨rfl,?_⟩;have d:Kp [] st (St.new st (.cells [.bool n.leaf,c,a] 105 false)):=(Kp.refl [] st).new _;have P:(St.new st (.cells [.bool n.leaf,c,a] 105 false)).m.g st.nx=some (.cells [.bool n.leaf,c,a] 105 false):=au _ _;generalize St.new st (.cells [.bool n.leaf,c,a] 105 false)=s1 at*;have f:=h.still d;rw[aM (n:=3) P rfl,af];refine(Oq f.fr (Z.mono d) N w).mono ?_;rintro _ s2 ⟨x,rfl,i⟩;have s:=i.kp;have C:=f.still s;obtain⟨ty,g,O⟩:=C.get;have S:aj .neq (some .int) true (I 0) (.int .i64 0) s2=.ok (.bool false) s2:=rfl;have Q:aj .sub none true (.int .i64 512) (I n.size) s2=.ok (I ((512-n.size:Nat):Int)) s2:=Gd
 have hlen:=(i.sl [] wb).len n.size afc uM s2
 have k:cT .zeros 1 [(.int .u8 0)] (I ((512-n.size:Nat):Int)) s2=some (512-n.size,ai (List.replicate (512-n.size) 0)):=by
  have:cT .zeros 1 [(.int .u8 0)] (I ((512-n.size:Nat):Int)) s2=bE (Nat.ble (512-n.size) 1099511627776) (some (512-n.size,cH (512-n.size) [.int .u8 0])) none:=rfl;rw[this,aO,aHP acd,O6]
 obtain⟨F,Y,X,l⟩:=i;have te:(ai (mV n)).length=n.size:=afc
 obtain⟨v',D,F',V,A,U,z⟩:=X.append (n:=512-n.size) (bytes:=1) (T:=ai (List.replicate (512-n.size) 0)) uM wb (bu _) (λb e=>(l b e).2) (by simp[bo.size]at*;omega);simp only[aD,aI,af,S,ag,aHH,aHV,bD,bj,ah,az,O,ar,aHN,aHG,aw,hlen,Q,k,V,aP];have r:=Y.trans U λq M=>.inr (l q M).1;have p:=f.still r;obtain⟨B,g3,j⟩:=p.get;rw[<-bI]at A
 have K:Sl D [π.bn,π.bc] v' 1 (ai (iU (.node n))):=A.sl λb e=>⟨λhh=>by
  have h9:=h.TH b (by unfold PI.W;simp at hh;rcases hh with h|h<;>simp[h]);have:=d.nx;have:=s.nx;rcases(z b e).1 with h|h
  .have:=(l b h).1;omega
  .omega,(z b e).2⟩
 refine(Ly p.pg L K (Jt w)).mono ?_;rintro _ s4 ⟨rfl,J,E⟩;simp only[j,ar,aHG,aw];have H:=d.trans r wb;have o:=(H.mono wb).trans J afk;exact⟨⟨⟨afp,afp⟩,afp⟩,afp,afp,o,h.of o E⟩
def DY (h:Tg τ π st G){n:bo}{v:CV}(j:0<G.cD)(i:IsNode st π.W v n)(r:n.ok)(q:n.size<=512):R 48 [.ptr τ 0,v] st λy st'=>y=.tuple [I G.dA,I 0]/\Kp π.W st st'/\Tg τ π st' (G.alloc.put G.dA (.node n)):=by
 have A:=i;obtain⟨b,a,rfl,E,D⟩:=i;refine bK ?_;rw[w48];rw[bS,aT];refine⟨rfl,?_⟩;have e:Kp [] st (St.new st (.cells [.bool n.leaf,b,a] 105 false)):=(Kp.refl [] st).new _;have x:(St.new st (.cells [.bool n.leaf,b,a] 105 false)).m.g st.nx=some (.cells [.bool n.leaf,b,a] 105 false):=au _ _;have C:(St.new st (.cells [.bool n.leaf,b,a] 105 false)).nx=st.nx+1:=rfl;generalize St.new st (.cells [.bool n.leaf,b,a] 105 false)=s1 at*;have d:=h.still e;refine d.get' ?_;refine(Lz d.pg j).mono ?_;rintro _ s2 ⟨rfl,c,o⟩;have l:=d.of c o;have u:st.nx∉π.W:=λhh=>by have:=h.TH _ hh;omega
 have w:=(c.keep st.nx uM u).trans x;have z:aj .neq (some .int) true (I 0) (.int .i64 0) s2=.ok (.bool false) s2:=rfl;simp only[aD,aI,af,z,ag,aHH,aHV];rw[aM (n:=3) w rfl,af];have s:=uq h.pg.X8 j;have f:IsNode s2 [] (.agg [.bool n.leaf,b,a]) n:=((A.mono (e.mono wb)).mono c).eH wb;refine(om l ((s.bW _).2 (.inr rfl)) f r q).mono ?_;rintro _ B ⟨rfl,p,k⟩;exact⟨rfl,((e.mono wb).trans c afk).trans p afk,k⟩
def Ua {v:CV}{n:bo}{a:bY}(h:IsNode st [] v n)(o:n.ok)(q:n.cells.length<=100000):R 92 [v,.str a] st λx st'=>x=I (jk n a)/\Kp [] st st':=by
 have r:=h;obtain⟨e,d,rfl,w,u⟩:=h;refine bK ?_;rw[w92];rw[bS,aT];refine⟨rfl,?_⟩;have k:Kp [] st (St.new st (.cells [.bool n.leaf,e,d] 105 false)):=(Kp.refl [] st).new _;have s:(St.new st (.cells [.bool n.leaf,e,d] 105 false)).m.g st.nx=some (.cells [.bool n.leaf,e,d] 105 false):=au _ _;generalize St.new st (.cells [.bool n.leaf,e,d] 105 false)=s1 at*;rw[aM (n:=3) s rfl,af];refine(R5 (r.mono k) q).mono ?_;rintro _ s2 ⟨rfl,l⟩;have p:n.find a<=n.cells.length:=aKb;have b:=Zb o.sorted a;have i:=k.trans l wb;simp only[aD,aI,af,ag];cases hc:n.cells[n.find a]? with
 |none=>
  rw[hc]at b;have j:n.hasB a=false:=by unfold bo.hasB;rw[hc]
  rw[j,aHM xI];exact⟨by rw[b],i⟩
 |some c=>
  rw[hc]at b;dsimp only at b;have j:n.hasB a=decide (c.key=a):=by unfold bo.hasB;rw[hc]
  rw[j]
  by_cases f:c.key=a
  .rw[aHP f]at b;rw[aHQ f,aHP rfl,gJ _ uM,af];exact⟨by rw[b],i⟩
  .rw[aHM f]at b;rw[aHL f,aHM xI];exact⟨by rw[b],i⟩
end
section
variable {X:List Nat}{rs:List (List CV)}{l:List db}
section
variable {τ:Nat} {π:PI} {st st':St} {G:GM}
def FI (st:St)(X:List Nat)(row:List CV)(s:db):Prop:=∃b a,row=[I s.page,I s.at_,.bool s.n.leaf,b,a]/\Sl st X b 4 (bM s.n.cells)/\Sl st X a 1 (cP s.n.kids)
def dV (st:St)(X:List Nat):List (List CV)->List db->Prop
 |[],[]=>True
 |r::rs,s::l=>FI st X r s/\dV st X rs l
 |_,_=>False
def dV.mono (h:dV st X rs l)(e:Kp X st st'):dV st' X rs l:=by
 induction rs generalizing l with
 |nil=>cases l with|nil=>trivial|cons s l=>exact h
 |cons r rs i=>cases l with
  |nil=>exact h
  |cons s l=>obtain⟨⟨g,f,a,b,c⟩,d⟩:=h;exact⟨⟨g,f,a,b.mono e,c.mono e⟩,i d⟩
def dV.eH {Y:List Nat}(h:dV st X rs l)(e:∀q∈Y,q∈X\/st.nx<=q):dV st Y rs l:=by
 induction rs generalizing l with
 |nil=>cases l with|nil=>trivial|cons s l=>exact h
 |cons r rs i=>cases l with
  |nil=>exact h
  |cons s l=>obtain⟨⟨g,f,a,b,c⟩,d⟩:=h;exact⟨⟨g,f,a,b.eH e,c.eH e⟩,i d⟩
def dV.snoc {r:List CV}{s:db}(h:dV st X rs l)(b:FI st X r s):dV st X (rs++[r]) (l++[s]):=by
 induction rs generalizing l with
 |nil=>cases l with|nil=>exact⟨b,afp⟩|cons s l=>exact h.elim
 |cons r rs a=>cases l with|nil=>exact h.elim|cons s l=>exact⟨h.1,a h.2⟩
def dV.len (h:dV st X rs l):rs.length=l.length:=by
 induction rs generalizing l with
 |nil=>cases l with|nil=>rfl|cons s l=>exact h.elim
 |cons r rs a=>cases l with|nil=>exact h.elim|cons s l=>simp[a h.2]
def dV.w (h:dV st X rs l):∀x∈rs,x.length=5:=by
 induction rs generalizing l with
 |nil=>simp
 |cons r rs e=>cases l with
  |nil=>exact h.elim
  |cons s l=>
   obtain⟨⟨g,f,rfl,b,c⟩,d⟩:=h;intro x a;rcases aHJ.1 a with rfl|a
   .rfl
   .exact e d x a
def dV.at (h:dV st X rs l){i:Nat}(hi:i<l.length):∃d:i<rs.length,FI st X rs[i] l[i]:=by
 induction rs generalizing l i with
 |nil=>cases l with
  |nil=>simp at hi
  |cons s l=>exact h.elim
 |cons r rs c=>cases l with
  |nil=>exact h.elim
  |cons s l=>
   cases i with
   |zero=>exact⟨wb,h.1⟩
   |succ i=>obtain⟨a,b⟩:=c h.2 (i:=i) Yy;exact⟨zS,b⟩
def fR (st:St)(X:List Nat)(x:CV)(l:List db):Prop:=∃a,Sl st X x 5 a.flatten/\dV st X a l
def fR.mono {x:CV}(h:fR st X x l)(d:Kp X st st'):fR st' X x l:=by
 obtain⟨c,a,b⟩:=h;exact⟨c,a.mono d,b.mono d⟩
def Wk (G:GM)(c:bY)(L:List aW)(st:St)(y:CV)(st':St):Prop:=
 Kp [] st st'/\∃x,y=.tuple [x,I 0]/\((G.root=0/\x=.ae)\/∃f a,vX G c f a L/\(a.length<=16/\(G.aE<=4095->a.length<=10))/\∀X,(∀b∈X,b<st.nx)->fR st' X x (a.reverse++[f]))
def Eu (h:Tg τ π st G){L:List aW}(ht:fC G L)(c:bY):R 45 [.ptr τ 0,.str c] st (Wk G c L st):=by
 refine bK ?_;rw[w45];simp only[cM,aK,aL];refine h.get' ?_;refine(JQ h.pg).same ?_
 by_cases h0:G.root=0
 ·
   refine bG (λfu J s=>J=[.ptr τ 0,.str c,.ae,I G.root]/\s=st) ?_ (n:=0) ⟨rfl,rfl⟩;rintro fu J s k ⟨rfl,rfl⟩ next;have e1:aj .neq (some .int) true (I G.root) (.int .i64 0) s=.ok (.bool false) s:=by rw[h0];rfl
   simp only[aK,aL,e1,af,ag,aHH,aHV];exact⟨Kp.refl _ _,.ae,rfl,.inl ⟨h0,rfl⟩⟩
 .obtain⟨H,aa,Z5,Xn⟩:=ht.tree.resolve_left λh=>h0 h.1;have hH:=Xn.deep Z5 ht.ok;have ac:=λhp=>Xn.aiV Z5 ht.ok hp
  refine bG (λfu J s=>∃(l:List db) (hh page:Nat) (lo:bY) (hi:Option bY) (O N Lm:List aW) (ps q:List Nat) (x:CV) (a:List (List CV)) (F:List Nat),
   fu=hh/\J=[.ptr τ 0,.str c,x,I page]/\Kp [] st s/\Ctx G hh l.reverse page lo hi O N ps/\Sub G hh page lo hi Lm q/\lj lo c/\ET c hi/\(q++ps).Nodup/\O++(Lm++N)=L/\l.length+hh=H/\Own s x 5 107 a.flatten F/\(∀b∈F,st.nx<=b/\b<s.nx)/\
   (∀X,(∀b∈X,b<st.nx\/b∈F)->dV s X a l)) ?_ (n:=H) ⟨[],H,G.root,[],none,[],[],L,[],aa,.ae,[],[],rfl,rfl,Kp.refl _ _,⟨rfl,rfl,rfl,rfl,rfl,rfl⟩,Xn,LH _,afp,by simpa using Z5,wb,wb,.inl ⟨rfl,rfl,rfl⟩,wb,λX D=>trivial⟩
  rintro fu J s k ⟨l,hh,page,lo,hi,O,N,Lm,ps,q,x,a,F,rfl,rfl,hk,zs,uE,FV,Ja,jm,hL,ak,w9,hF,eF⟩ next;have HA:=uE;obtain⟨n,qn,C,Q,rfl⟩:=uE;have Ko:=C.bW.1;have e1:aj .neq (some .int) true (I page) (.int .i64 0) s=.ok (.bool true) s:=by rw[av,ff,aHL uM];rfl
  simp only[aK,aL,e1,af,ag,aIj];have ts:=h.still hk;have am:=hk.nx;refine(zU ts C).mono ?_;rintro _ p ⟨xn,rfl,k3,z⟩;have n3:=k3.nx;obtain⟨j,d,rfl,c1,c2⟩:=z [] wb;obtain⟨x1,x2,x3⟩:=c1.bL;obtain⟨y1,y2,y3⟩:=c2.bL;simp only[aD,aI,af];refine mW rfl rfl acP ?_;have S:Kp [] p (St.new p (.cells [.bool n.leaf,j,d] 105 false)):=(Kp.refl _ p).new _;have E:(St.new p (.cells [.bool n.leaf,j,d] 105 false)).m.g p.nx=some (.cells [.bool n.leaf,j,d] 105 false):=au _ _;have n5:(St.new p (.cells [.bool n.leaf,j,d] 105 false)).nx=p.nx+1:=rfl;generalize St.new p (.cells [.bool n.leaf,j,d] 105 false)=v at*;have HQ:=k3.trans S wb;have o5:=w9.keep HQ λb hb=>⟨(hF b hb).2,wb⟩;have XV:=(eF [] wb);have AX:=XV.len;have Xo:=fg XV.w;have Z:Sl v [] x 5 a.flatten:=o5.sl λb hb=>⟨wb,adF⟩;have e2:aj .neq (some .int) true (I 0) (.int .i64 0) v=.ok (.bool false) v:=rfl;have e3:aj .eql (some .int) true (I a.length) (.int .i64 40) v=.ok (.bool false) v:=Pe
  have qR:n.cells.length<=512:=by
   have:=eZ n.leaf n.cells;have:=C.size;rw[cr]at this;omega
  simp only[e2,ag,aHH,aHV,Z.len a.length Xo uM v,af,e3,fl,ah,az,E,ar,aHN,aHG,aw];have Y:IsNode v [] (.agg [.bool n.leaf,j,d]) n:=⟨j,d,rfl,c1.mono S,c2.mono S⟩
  have f:∀(o:St) (at_:Nat) (K:CV->St->Prop),Kp [] v o->(∀v' e F',Own e v' 5 107 (a++[[I page,I at_,.bool n.leaf,j,d]]).flatten F'->Kp [] st e->e.m.g p.nx=some (.cells [.bool n.leaf,j,d] 105 false)->(∀b∈F',st.nx<=b/\b<e.nx)->Sl e [] d 1 (cP n.kids)->
   (∀X,(∀b∈X,b<st.nx\/b∈F')->dV e X (a++[[I page,I at_,.bool n.leaf,j,d]]) (l++[⟨page,at_,n⟩]))->K v' e)->
   us (aJ 3 (.ptr p.nx 0) o) λeh=>us (aZ [.int .i64 0,.int .i64 0,.bool false,.ae,.ae] [(0,1,I page),(1,1,I at_),(2,3,eh)] o) λew=>upon (bC 107 1 (cH 1 [.int .i64 0,.int .i64 0,.bool false,.ae,.ae]) [(0,5,ew)] o) λdW s7=>
    upon (bJ 107 5 72 x (cT .slice 5 [.int .i64 0,.int .i64 0,.bool false,.ae,.ae] dW s7) s7) K:=by
   intro o at_ K u hK;have n6:=u.nx;have g6:=(u.keep p.nx uM wb).trans E;have Fg:=HQ.trans u wb;rw[aM (n:=3) g6 rfl,af]
   have mo:aZ [.int .i64 0,.int .i64 0,.bool false,.ae,.ae] [(0,1,I page),(1,1,I at_),(2,3,.agg [.bool n.leaf,j,d])] o=.ok (.agg [I page,I at_,.bool n.leaf,j,d]) o:=by
    rw[dB];simp[cE,bz]
   rw[mo,af];have o6:=o5.keep u λb hb=>⟨adF,wb⟩;have an:a.length<=16:=uM
   refine KT 72 o6 uM (λb hb=>adF) rfl rfl rfl acP (by rw[Xo];omega) ?_;intro v' e F' M r V
   have W:∀b∈F',st.nx<=b/\b<e.nx/\(b∈F\/o.nx<=b):=λb hb=>by
    obtain⟨p1,p2⟩:=V b hb;refine⟨?_,p2,p1⟩;rcases p1 with h|h
    .exact(hF b h).1
    .omega
   have mC:=(hk.trans Fg wb).trans r λb hb=>.inr (hF b hb).1;have ad:p.nx∉F:=λhh=>by have:=(hF _ hh).2;omega
   have ab:=z F (λb hb=>(hF b hb).2);obtain⟨_,_,e9,d1,d2⟩:=ab;cases e9;have B:=S.trans u wb;refine hK v' e F' (by simpa using M) mC ((r.keep p.nx uM ad).trans g6) (λb hb=>⟨(W b hb).1,(W b hb).2.1⟩) (((d2.mono (B.mono wb)).mono r).eH wb) ?_;intro X D;refine dV.snoc ?_ ⟨j,d,rfl,?_,?_⟩
   .have h1:=eF ((X.filter λb=>decide (b<st.nx))++F) (by intro b hb;simp at hb;rcases hb with h|h;exact .inl h.2;exact .inr h)
    have y:dV s (X++F) a l:=h1.eH (by
     intro b hb;simp only[aHT,aIR,aIP]at hb⊢;rcases hb with hb|hb
     .rcases D b hb with h|h
      .exact .inl (.inl ⟨hb,h⟩)
      .rcases(W b h).2.2 with y|y
       .exact .inl (.inr y)
       .right;have:=Fg.nx;omega
     .exact .inl (.inr hb))
    exact((y.mono (Fg.mono wb)).mono (r.mono λq hq=>.inl aaa)).eH (by intro b hb;simp[hb])
   all_goals
    obtain⟨_,_,e9,T,d4⟩:=z ((X.filter λb=>decide (b<s.nx))++F) (by intro b hb;simp at hb;rcases hb with h|h;exact h.2;exact(hF b h).2);cases e9
    have Rt:∀b∈X++F,b∈(X.filter λb=>decide (b<s.nx))++F\/o.nx<=b:=by
     intro b hb;simp only[aHT,aIR,aIP]at hb⊢;rcases hb with hb|hb
     .rcases D b hb with h|h
      .exact .inl (.inl ⟨hb,uM⟩)
      .rcases(W b h).2.2 with y|y
       .exact .inl (.inr y)
       .exact .inr y
     .exact .inl (.inr hb)
   .exact(((T.mono (B.mono wb)).eH Rt).mono (r.mono λq hq=>.inl aaa)).eH (by intro b hb;simp[hb])
   .exact(((d4.mono (B.mono wb)).eH Rt).mono (r.mono λq hq=>.inl aaa)).eH (by intro b hb;simp[hb])
  cases fu with
  |zero=>
   have A:n.leaf=true:=Q.leaf;rw[A]at f;rw[A]at E Y;rw[A,aHP rfl,aM (n:=3) E rfl,af];refine(R5 Y uM).mono ?_;rintro _ o ⟨rfl,u⟩;simp only[aD,aI,af];refine f o (n.find c) _ u ?_;intro v' e F' M r V U a5 a6;refine⟨r,v',rfl,.inr ⟨⟨page,n.find c,n⟩,l.reverse,⟨lo,hi,O,N,Lm,ps,qn,zs,C,Q,FV,Ja,by simpa using jm,hL,rfl⟩,⟨by rw[aKw];omega,λhp=>by rw[aKw];have:=ac hp;omega⟩,λX D=>?_⟩⟩;rw[aKn];exact⟨_,M.sl λb hb=>⟨λhh=>by have:=D b hh;have:=(U b hb).1;omega,(U b hb).2⟩,a6 X λb hb=>.inl (D b hb)⟩
  |succ hh=>
   have A:n.leaf=false:=Q.leaf;obtain⟨P,Ka,yV,La,ai,Lb,p2,pm,d1,d2,T,d4,d5,d6,d7⟩:=zs.descend C Q FV Ja;rw[A]at f;rw[A]at E Y;rw[A,aHM xI,aM (n:=3) E rfl,af];refine(Ua Y C.ok uM).mono ?_;rintro _ o ⟨rfl,u⟩;refine f o (jk n c) _ u ?_;intro v' e F' M r V U a5 a6;obtain⟨eT,px⟩:=aHW.1 d1;simp only[V,ar,aHI,aHG,aw];refine a5.idx (i:=jk n c) (by simpa using eT) _ ?_;have e4:(cP n.kids)[jk n c]'(by simpa using eT)=I P:=by simp[cP,px]
   have al:0<P:=by obtain⟨_,_,Z7,_⟩:=T;exact Z7.bW.1
   have e5:aj .eql (some .int) true (I P) (.int .i64 0) e=.ok (.bool false) e:=Pe
   rw[e4,e5,af,ag,aHM xI];refine next hh _ _ uM ⟨l++[⟨page,jk n c,n⟩],hh,P,Ka,yV,O++La,Lb++N,ai,p2,pm,v',_,F',rfl,rfl,r,?_,T,d4,d5,?_,?_,zS,M,U,a6⟩
   .rw[List.reverse_append];exact d2
   .exact d7.nodup_iff.2 (by simpa using jm)
   .rw[<-hL,d6];simp
end
end
section
variable {v:List UInt8}{n:Nat}{G:GM}{ps:List Nat}
section
variable {st st':St}
def Jl {X:List Nat}{v:CV}{l:List UInt8}(h:Sl st X v 1 (ai l))(q:l.length<=1000)(c:∀i,ph (l.take i)<=4611686018427387904):R 141 [v] st λx st'=>x=I (ph l)/\st'=st:=by
 refine bK ?_;rw[amX];have hlen:=h.len l.length wb uM st;show us _ _;rw[hlen,af];show df _ _ _;simp only[aK,aL];refine bG (λfu b s=>∃i,fu+i=l.length/\b=[I (ph (l.take i)),v,I l.length,I i]/\s=st) ?_ (n:=l.length) ⟨0,rfl,rfl,rfl⟩;rintro fu b s k ⟨i,hi,rfl,rfl⟩ next;simp only[aK,aL]
 by_cases hc:i<l.length
 .have a1:aj .lss none false (I i) (I l.length) s=.ok (.bool true) s:=by rw[av,c8,aHQ uM]
  have r:=c i;have p:=c (i+1);have a:l.take (i+1)=l.take i++[l[i]]:=by rw[aIa hc]
  rw[a,tF]at p;have d:(l[i]).toNat<256:=(l[i]).toNat_lt
  have o:aj .shl none true (I (ph (l.take i))) (.int .u64 8) s=.ok (I ((ph (l.take i)*2^8:Nat):Int)) s:=by
   have e:aj .shl none true (I (ph (l.take i))) (.int .u64 8) s=.ok (I (IntKind.i64.wrap ((ph (l.take i):Int)*2^8))) s:=rfl;rw[e,bA uM];simp
  have m:dw (.toInt .i64) (bP l[i]) s=.ok (I (l[i]).toNat) s:=Gh _ uM _ _;have j:aj .or none false (I ((ph (l.take i)*2^8:Nat):Int)) (I (l[i]).toNat) s=.ok (I ((ph (l.take i)*2^8+(l[i]).toNat:Nat):Int)) s:=Da _ _ _ uM uM _ _ _;have g:aj .add none true (I i) (.int .i64 1) s=.ok (I ((i+1:Nat):Int)) s:=F7
  simp only[a1,af,ag,aIj,o];refine h.idx I2 _ ?_;have f:(ai l)[i]'(by simpa using hc)=bP l[i]:=ack
  rw[f,m,af,j,af,g,af];exact next (fu-1) _ _ uM ⟨i+1,uM,by rw[a,tF],rfl⟩
 .have a1:aj .lss none false (I i) (I l.length) s=.ok (.bool false) s:=by rw[av,c8,aHL uM]
  simp only[a1,af,ag,aHH,aHV];rw[aHS uM];exact⟨rfl,afp⟩
def TX {b off len cap:Nat}{L:List CV}{t:TypeId}{g:Bool}(j:st.m.g b=some (.cells L t g))(E:b<st.nx)(D:off+len<=L.length)(d:len<=8)(B:n<9223372036854775808):
 R 98 [.slice b off len cap 0,I n] st λx st'=>Kp [b] st st'/\st'.nx=st.nx/\st'.m.g b=some (.cells (bz L off (ai (be len n))) t g):=by
 refine bK ?_;rw[w98];simp only[cM,oM,af,aK,aL]
 refine bG (λfu c s=>∃i,fu+i=len/\c=[.slice b off len cap 0,I n,I len,I i]/\Kp [b] st s/\s.nx=st.nx/\s.m.g b=some (.cells (bz L (off+len-i) (ai (be i n))) t g)) ?_ (n:=len) ⟨0,rfl,rfl,Kp.refl _ _,rfl,by
  have:ai (be 0 n)=[]:=rfl;rw[this,AE];exact j⟩
 rintro fu c s k ⟨i,hi,rfl,e,f,a⟩ next;simp only[aK,aL]
 by_cases C:i<len
 .have a1:aj .lss none false (I i) (I len) s=.ok (.bool true) s:=by rw[av,c8,aHQ uM]
  have y:aj .sub none true (I len) (.int .i64 1) s=.ok (I ((len-1:Nat):Int)) s:=Gd
  have w:aj .sub none false (I ((len-1:Nat):Int)) (I i) s=.ok (I ((len-1-i:Nat):Int)) s:=Gd
  have u:aj .mul none true (.int .i64 8) (I i) s=.ok (I ((8*i:Nat):Int)) s:=Ww
  have r:cV 1 (.slice b off len cap 0) (I ((len-1-i:Nat):Int)) s=.ok (.ptr b (off+(len-1-i)*1)) s:=gp uM (.inl rfl) s;have q:∀s,aj .add none true (I i) (.int .i64 1) s=.ok (I ((i+1:Nat):Int)) s:=λs=>F7
  simp only[a1,af,ag,aIj,oM,y,w,u,Eg _ _ (show i<8 from uM),MX,Hw,r,aH,a,aS,q];have p:off+(len-1-i)*1=off+len-(i+1):=uM
  have o:off+len-i=off+len-(i+1)+1:=uM
  have te:=iC i n
  have l:bz (bz L (off+len-i) (ai (be i n))) (off+len-(i+1)) [bP (UInt8.ofNat (n/256^i%256))]=bz L (off+len-(i+1)) (ai (be (i+1) n)):=by
   rw[o,Db _ _ _ _ aea,zJ];rfl
  have z:(bP (UInt8.ofNat (n/256^i%256))).cK=[bP (UInt8.ofNat (n/256^i%256))]:=rfl;rw[p,z,l];refine⟨⟨rfl,rfl,adr⟩,next (fu-1) _ _ uM ⟨i+1,uM,rfl,e.set _ (.inl wb) uM,f,an _ _ _⟩⟩
 .have a1:aj .lss none false (I i) (I len) s=.ok (.bool false) s:=by rw[av,c8,aHL uM]
  simp only[a1,af,ag,aHH,aHV];have A:i=len:=uM
  subst A;rw[aJh]at a;exact⟨e,f,a⟩
end
def bN (n:Nat):Nat:=if n<=64 then 0 else (n+479)/480
def Ew {st:St}(f:n<=4000000000):R 44 [I n] st λv st'=>v=I (bN n)/\st'=st:=by
 refine bK ?_;rw[w44];have a:aj .leq none true (I n) (.int .i64 64) st=.ok (.bool (decide (n<=64))) st:=Wv
 have d:aj .add none true (I n) (.int .i64 480) st=.ok (I ((n+480:Nat):Int)) st:=F7
 have c:aj .sub none true (I ((n+480:Nat):Int)) (.int .i64 1) st=.ok (I ((n+479:Nat):Int)) st:=Gd
 have b:aj .quo none true (I ((n+479:Nat):Int)) (.int .i64 480) st=.ok (I (((n+479)/480:Nat):Int)) st:=by
  have e:aj .quo none true (I ((n+479:Nat):Int)) (.int .i64 480) st=.ok (I (IntKind.i64.wrap (Int.tdiv ((n+479:Nat):Int) 480))) st:=rfl;have a:Int.tdiv ((n+479:Nat):Int) 480=(((n+479)/480:Nat):Int):=rfl;rw[e,a,bA uM]
 unfold bN;simp only[a,af,ag,d,c,b]
 by_cases h:n<=64
 .rw[aHQ h,aHP rfl,aHP h];exact⟨rfl,afp⟩
 .rw[aHL h,aHM xI,aHM h];exact⟨rfl,afp⟩
def qb.len {page:Nat}(h:qb G ps page v):ps.length=(v.length+479)/480:=by
 induction ps generalizing page v with
 |nil=>obtain⟨_,rfl⟩:=h;rfl
 |cons p ps a=>
  obtain⟨_,c,_,next,_,_,b⟩:=h;have:=a b;rw[aIl]at this;have:=aJu.2 c;rw[aIg];omega
section
variable {τ:Nat} {π:PI} {st st':St}
def LP {f:CV}{c:dq}(d:Nat->GM->List Nat->Nat->List UInt8->St->Prop)
 (hT:∀q G ps page v s,d q G ps page v s->Tg τ π s G/\qb G ps page v/\s.m.g q=some (.cells (bg c) 109 false)/\q<s.nx)
 (hS:∀q G p ps v s next,d q G (p::ps) p v s->G.cont p=.dR next (v.take 480)->qb G ps next (v.drop 480)->∀s' b,Kp [] s s'->(∀X,(∀b∈X,b<s.nx)->Sl s' X b 1 (ai (v.take 480++List.replicate (480-(v.take 480).length) 0)))->fA R f [I p,b] s' λx YH=>x=I 0/\∃G',d q G' ps next (v.drop 480) YH)
    (h0:∀j q,Kp [] st j->st.nx<=q->q<j.nx->j.m.g q=some (.cells (bg c) 109 false)->d q G ps c.dR v j) (V:ps.length=bN c.size) (aa:c.size<=8192):
 R 93 [.ptr τ 0,.agg (bg c),f] st λx st'=>x=I 0/\∃q G',st.nx<=q/\d q G' [] 0 [] st':=by
 refine bK ?_;rw[w93];rw[bS,aT];refine⟨rfl,?_⟩;have k1:Kp [] st (St.new st (.cells (bg c) 109 false)):=(Kp.refl [] st).new _;have N:(St.new st (.cells (bg c) 109 false)).m.g st.nx=some (.cells (bg c) 109 false):=au _ _;have n1:(St.new st (.cells (bg c) 109 false)).nx=st.nx+1:=rfl;generalize St.new st (.cells (bg c) 109 false)=j at*;have i1:=h0 j st.nx k1 (aHK _) uM N
 have Fm:∀o x,(bg c)[o]?=some x->∀s,s.m.g st.nx=some (.cells (bg c) 109 false)->∀K:CV->Prop,fl o (.ptr st.nx 0) s K=K x:=by
  intro o x hx s hs K;simp only[fl,ah,af,az,hs,ar,aHN,hx,aw]
 rw[Fm 2 (I c.dR) rfl j N,cM,Fm 3 (I c.size) rfl j N];refine(Ew (n:=c.size) uM).same ?_;simp only[aK,aL]
 have ad:ps.length<=1000000:=by
  rw[V];unfold bN;split<;>omega
 rw[<-V];refine bG (λfu P s=>∃(G':GM) (i page:Nat) (u:List Nat) (e:List UInt8),fu+i=ps.length/\u.length=fu/\P=[.ptr τ 0,f,.ptr st.nx 0,I page,I ps.length,I i]/\d st.nx G' u page e s) ?_ (n:=ps.length) ⟨G,0,c.dR,ps,v,rfl,rfl,rfl,i1⟩;rintro fu P s k ⟨G',i,page,u,e,hi,y,rfl,r⟩ next;obtain⟨z,Y,hg,F⟩:=hT _ _ _ _ _ _ r;simp only[aK,aL,dD,af,ag]
 by_cases W:i<ps.length
 .rw[aHQ W,aHP rfl]
  obtain⟨p,a,rfl⟩:∃p a,u=p::a:=by
   cases u with
   |nil=>simp at y;omega
   |cons p a=>exact⟨p,a,rfl⟩
  obtain⟨rfl,gV,hu,nx,Ba,Cq,L⟩:=Y;refine z.get' ?_;refine(P6 z.pg hu).mono ?_;rintro _ s4 ⟨D,O,b,rfl,Z,b1,b2⟩;rw[Ba]at O Z;have n4:=D.nx;have M:=(D.keep st.nx F wb).trans hg;have e1:aj .eql (some .int) true (I 0) (.int .i64 1) s4=.ok (.bool false) s4:=rfl;have e2:aj .gtr none true (I c.size) (.int .i64 8192) s4=.ok (.bool false) s4:=by rw[av,dh,aHL uM]
  have e3:aj .neq (some .int) true (I 0) (.int .i64 0) s4=.ok (.bool false) s4:=rfl;have H:(bg c)[3]?=some (I c.size):=rfl;have A:(ai (iU (.dR nx (e.take 480)))).length=512:=by simpa using O
  have E:∀X,(∀b∈X,b<s.nx)->Sl s4 X (.slice b 0 512 512 1) 1 (ai (iU (.dR nx (e.take 480)))):=λX J=>.inr ⟨b,0,512,512,1,rfl,by rw[A],⟨aHK _,.inr rfl⟩,.inr ⟨λh=>by have:=J b h;omega,b2,_,_,_,Z,uM,Yv⟩⟩;obtain⟨TQ,p1,U⟩:=(E [] wb).hi (n:=512) uM (by rw[A]) (h:=4) uM s4
  have xL:(ai (iU (.dR nx (e.take 480)))).take (4*1)=ai (be 4 nx):=by
   unfold iU;rw[bI,aJk (by rw[bF,iC])]
  rw[xL]at U;have C:aR 1 (.slice b 0 512 512 1) none (some (.int .i64 4)) s4=.ok TQ s4:=p1;simp only[aD,aI,af,e1,aG,aHH,aHV,aHY,iy,ba,ah,az,M,ar,aHN,H,aw,e2,aF,ag,e3,C];refine(Jl U (by rw[iC];omega) (qV _ (by rw[iC];omega))).same ?_;rw[vU 4 nx (by have:nx<=2147483647:=Cq;omega)];have ac:(e.take 480).length<=480:=TP
  have Z9:((ai (iU (.dR nx (e.take 480)))).drop (4*1)).take ((484-4)*1)=ai (e.take 480++List.replicate (480-(e.take 480).length) 0):=by
   unfold iU;rw[bI,aKF (by rw[bF,iC]),bI,aJJ,aHS (by rw[bF];omega),bI]
   congr 1
   unfold ai;rw[<-aJI,List.take_replicate,aIx]
   congr 2;omega
  obtain⟨w,T,_⟩:=(E [] wb).both (n:=512) uM (by rw[A]) (l:=4) (h:=484) uM uM s4;have B:aR 1 (.slice b 0 512 512 1) (some (.int .i64 4)) (some (.int .i64 484)) s4=.ok w s4:=T;rw[B,af];refine tw (hS st.nx G' page a e s nx r Ba L s4 w D λX J=>?_) ?_
  .obtain⟨ab,q3,S⟩:=(E X J).both (n:=512) uM (by rw[A]) (l:=4) (h:=484) uM uM s4;rw[T]at q3;cases q3;rw[Z9]at S;exact S
  .rintro _ Q ⟨rfl,G2,yV⟩;have e4:aj .neq (some .int) true (I 0) (.int .i64 0) Q=.ok (.bool false) Q:=rfl;rw[e4,af,ag,aHM xI,gJ i uM,af];exact next (fu-1) _ _ uM ⟨G2,i+1,nx,a,_,uM,by simp at y;omega,rfl,yV⟩
 .rw[aHL W,aHM xI];have:u=[]:=aIh.1 uM;subst this;obtain⟨rfl,rfl⟩:=Y;have e5:aj .neq (some .int) true (I ((0:Nat):Int)) (.int .i64 0) s=.ok (.bool false) s:=rfl;rw[e5,af,ag,aHM xI];exact⟨afp,st.nx,G',aHK _,r⟩
end
end
section
variable {τ:Nat} {π:PI} {st st':St} {G:GM}
def Tg.wV (h:Tg τ π st G){X:List Nat}(a:Kp X st st')(c:∀b∈X,b∉π.all/\b≠τ):Tg τ π st' G:=by
 obtain⟨ty,g,d⟩:=h.get;exact⟨h.pg.keep a λb e hh=>(c b hh).1 e,aId h.lt a.nx,h.not,⟨ty,g,(a.keep τ h.lt λhh=>(c τ hh).2 rfl).trans d⟩,a.fresh h.fr⟩
structure abK (τ:Nat)(π:PI)(st:St)(G:GM)(c:dq)(bx:Nat)(anJ:List UInt8)(q:Nat)(ps:List Nat)(page:Nat)(v:List UInt8)(s:St)(x:CV)(F:List Nat)(taken pad:List UInt8):Prop where
 tg:Tg τ π s G
 chain:qb G ps page v
 box:s.m.g q=some (.cells (bg c) 109 false)
 lt:q<s.nx
 ne:q≠bx
 gbx:s.m.g bx=some (.cells [x] 93 false)
 bl:bx<s.nx
 own:Own s x 1 5 (ai (taken++pad)) F
 F:∀b∈F,bx<b/\b<s.nx/\b≠q
 tot:anJ=taken++v
 aor:v≠[]->pad=[]
 azU:pad.length<=480
 kp:Kp [] st s
def Gc (h:Tg τ π st G){c:dq}{v:List UInt8}{ps:List Nat}(hc:c.ok true)(hv:Bx G c v ps):R 53 [.ptr τ 0,.agg (bg c)] st λx st'=>x=.tuple [.str v,I 0]/\Kp [] st st':=by
 refine bK ?_;rw[w53];rw[bS,aT];refine⟨rfl,?_⟩;have X:Kp [] st (St.new st (.cells (bg c) 109 false)):=(Kp.refl [] st).new _;have E:(St.new st (.cells (bg c) 109 false)).m.g st.nx=some (.cells (bg c) 109 false):=au _ _;have n1:(St.new st (.cells (bg c) 109 false)).nx=st.nx+1:=rfl;generalize St.new st (.cells (bg c) 109 false)=s1 at*
 have A:∀o x,(bg c)[o]?=some x->∀s,s.m.g st.nx=some (.cells (bg c) 109 false)->∀K:CV->Prop,fl o (.ptr st.nx 0) s K=K x:=by
  intro o x hx s hs K;simp only[fl,ah,af,az,hs,ar,aHN,hx,aw]
 rw[A 2 (I c.dR) rfl s1 E,A 1 (.str c.value) rfl s1 E];rcases hv with⟨h0,rfl,rfl⟩|⟨h0,j,FV,Ja,Z⟩
 .have H:aj .eql (some .int) true (I c.dR) (.int .i64 0) s1=.ok (.bool true) s1:=by rw[h0];rfl
  rw[H,af,ag,aHP rfl];exact⟨rfl,X⟩
 .have H:aj .eql (some .int) true (I c.dR) (.int .i64 0) s1=.ok (.bool false) s1:=by rw[av,cC,aHL uM]
  rw[H,af,ag,aHM xI,cz,aP];have W:Kp [] s1 (St.new s1 (.cells [.ae] 93 false)):=(Kp.refl [] s1).new _;have g2:(St.new s1 (.cells [.ae] 93 false)).m.g s1.nx=some (.cells [.ae] 93 false):=au _ _;have n2:(St.new s1 (.cells [.ae] 93 false)).nx=s1.nx+1:=rfl;generalize St.new s1 (.cells [.ae] 93 false)=s2 at*;have S:=(W.keep st.nx uM wb).trans E;have V:=X.trans W wb;have t2:=h.still V;rw[aM (n:=4) S rfl,af,lV,af];refine(LP (st:=s2) (τ:=τ) (π:=π) (c:=c) (G:=G) (ps:=ps) (v:=v) (λq G' ps page v' s=>G'=G/\∃x F a i,abK τ π st G c s1.nx v q ps page v' s x F a i/\st.nx<q/\s.m.g st.nx=some (.cells (bg c) 109 false)) ?_ ?_ ?_ ?_ ?_).mono ?_
  .rintro q G' ps page v' s ⟨rfl,x,F,a,i,d,_⟩;exact⟨d.tg,d.chain,d.box,d.lt⟩
  .rintro q G' p ql v' s nx ⟨rfl,x,F,a,i,d,Y,k⟩ Ba D s' b l y;have O:v'≠[]:=by obtain⟨_,h,_⟩:=d.chain;exact h
   have N:=d.aor O;subst N;have ac:=l.nx;rw[dM];simp only[aIm,aIL];refine bK ?_;rw[anA];have gbx:=(l.keep _ d.bl wb).trans d.gbx;have Nr:=d.own.keep l λb f=>⟨(d.F b f).2.1,wb⟩;obtain⟨m,q1,q2⟩:=(y [] wb).src [(.int .u8 0)]
   have Q:(v'.take 480++List.replicate (480-(v'.take 480).length) 0).length=480:=by
    have:(v'.take 480).length<=480:=TP
    rw[aHR,aIF];omega
   have hm:m=480:=by rw[bF,Q]at q1;omega
   subst hm;have aa:a.length<=8192:=by have:=congrArg List.length d.tot;rw[aHR]at this;omega
   obtain⟨u,z,F',a1,a2,r,a4⟩:=Nr.append (n:=480) (bytes:=1) (T:=ai (v'.take 480++List.replicate (480-(v'.take 480).length) 0)) uM (by rw[bF,Q]) (bu _) (λb f=>by have:=(d.F b f).2.1;omega) (by rw[bF,bF,Q,aHR];simp;omega);have L:s1.nx∉F:=λh=>by have:=(d.F _ h).1;omega
   have J:=(r.keep _ (by have:=d.bl;omega) L).trans gbx;obtain⟨o1,o2⟩:=a2.cF;have kW:bz [x] 0 [u]=[u]:=rfl;simp only[az,gbx,ar,aHG,aw,q2,a1,aP,aH,J,aS,o2,kW];refine⟨⟨rfl,acu,wb⟩,afp,G',rfl,u,F',a++v'.take 480,List.replicate (480-(v'.take 480).length) 0,?_,Y,?_⟩
   .have w:∀b∈F',(b∈F\/s'.nx<=b)/\b<z.nx:=λb f=>⟨(a4 b f).1.imp id λh=>uM,(a4 b f).2⟩;have ad:=r.nx;have P:=(d.kp.trans l wb).trans r λb f=>.inr (by have:=(d.F b f).1;omega);have eF:∀b,st.nx<=b->b∉π.all/\b≠τ:=λb f=>⟨λhh=>acw,λe=>abx⟩;have fo:Kp [s1.nx] z (St.set z s1.nx (.cells [u] 93 false)):=(Kp.refl _ z).set _ (.inl wb) (by have:=d.bl;omega);refine⟨?_,D,?_,by have:=d.lt;simp;omega,d.ne,an _ _ _,by have:=d.bl;simp;omega,?_,λb f=>?_,?_,?_,?_,?_⟩
    .exact(((d.tg.still l).wV r λb f=>eF b (by have:=(d.F b f).1;omega)).wV fo λb f=>eF b (by simp at f;omega))
    .rw[ak _ _ _ _ d.ne,r.keep q (by have:=d.lt;omega) (λh=>(d.F q h).2.2 rfl),l.keep q d.lt wb];exact d.box
    .have e:ai (a++v'.take 480++List.replicate (480-(v'.take 480).length) 0)=ai (a++[])++ai (v'.take 480++List.replicate (480-(v'.take 480).length) 0):=by
      rw[<-bI];simp
     rw[e]
     exact a2.mono λb f=>ak _ _ _ _ λe=>by
      rcases(w b f).1 with h|h
      .have:=(d.F b h).1;omega
      .have:=d.bl;omega
    .refine⟨?_,(w b f).2,?_⟩
     .rcases(w b f).1 with h|h
      .exact(d.F b h).1
      .have:=d.bl;omega
     .rcases(w b f).1 with h|h
      .exact(d.F b h).2.2
      .have:=d.lt;omega
    .rw[aIq,aIA];exact d.tot
    .intro gV
     have:480<v'.length:=by
      rcases aIX 480 v'.length with h|h
      .exact h
      .exact absurd (aIp h) gV
     rw[aHZ,aIC uM];rfl
    .rw[aIF];omega
    .exact P.set _ (.inr uM) (by have:=d.bl;omega)
   .have h3:st.nx<s.nx:=by have:=d.bl;omega
    rw[ak _ _ _ _ uM,r.keep st.nx uM (λh=>by have:=(d.F _ h).1;omega),l.keep st.nx h3 wb];exact k
  .intro s3 q k3 ab Kn C;refine⟨rfl,.ae,[],[],[],⟨t2.still k3,Z,C,Kn,uM,(k3.keep _ uM wb).trans g2,by have:=k3.nx;omega,.inl ⟨rfl,rfl,rfl⟩,wb,wb,λ_=>rfl,wb,V.trans k3 wb⟩,uM,(k3.keep _ uM wb).trans S⟩
  .rw[Z.len,j];unfold bN;rw[aHM uM]
  .omega
  .rintro _ s3 ⟨rfl,q,G',Y,rfl,x,F,a,i,d,Kn,k⟩;have B:=d.tot;rw[aIJ]at B;have y:Sl s3 [] x 1 (ai (a++i)):=d.own.sl λb f=>⟨wb,(d.F b f).2.1⟩;have e2:aj .neq (some .int) true (I 0) (.int .i64 0) s3=.ok (.bool false) s3:=rfl;have hlen:=y.len (a++i).length wb uM s3;have e3:aj .lss none false (I (a++i).length) (I c.size) s3=.ok (.bool false) s3:=by rw[dD,aHL (by rw[j,B,aHR];omega)]
   obtain⟨v',p1,U⟩:=y.hi (n:=(a++i).length) uM wb (h:=c.size) (by rw[j,B,aHR];omega) s3
   have xL:(ai (a++i)).take (c.size*1)=ai v:=by
    rw[bI,aJr,j,B,aJk wb]
   rw[xL]at U
   have M:∀K:CV->Prop,iy (some true) 3 (.ptr st.nx 0) s3 K=K (I c.size):=λK=>by
    simp only[iy,ba];exact A 3 (I c.size) rfl s3 k K
   simp only[e2,af,aG,aHH,aHV,aHY,ba,az,d.gbx,ar,aHG,aw,hlen,M,e3,aF,ag,A 3 (I c.size) rfl s3 k,p1,U.str];exact⟨afp,d.kp⟩
end
section
variable {ps:List Nat}{n:Nat}{d:List UInt8}{g:Bool}
def iz (G:GM)(ps:List Nat):GM:=ps.foldl GM.drop G
structure Yq (G:GM)(ps:List Nat):Prop where
 ok:uK (iz G ps)
 bW:∀q,(iz G ps).bW q↔G.bW q/\q∉ps
 free:(iz G ps).cD=G.cD+ps.length
 cont:∀q,(iz G ps).cont q=G.cont q
 root:(iz G ps).root=G.root
 aE:(iz G ps).aE=G.aE
def Ye {G:GM}(h:uK G)(i:ps.Nodup)(j:∀p∈ps,G.bW p):Yq G ps:=by
 induction ps generalizing G with
 |nil=>exact⟨h,λq=>by simp[iz],rfl,λ_=>rfl,rfl,rfl⟩
 |cons p ps k=>
  rw[aHX]at i;have f:=rO h (j p wb);have:=k f.ok i.2 λq hq=>(f.bW q).2 ⟨j q aaa,λe=>i.1 (e▸hq)⟩;have e:iz G (p::ps)=iz (G.drop p) ps:=rfl;refine⟨by rw[e];exact this.ok,λq=>?_,?_,λq=>by rw[e,this.cont];rfl,by rw[e,this.root];rfl,by rw[e,this.aE];rfl⟩
  .rw[e,this.bW,f.bW];simp only[aHJ,aJf];constructor
   .rintro⟨⟨a,b⟩,c⟩;exact⟨a,b,c⟩
   .rintro⟨a,b,c⟩;exact⟨⟨a,b⟩,c⟩
  .rw[e,this.free,f.free,aIg];omega
def KM (G:GM)(ps:List Nat):(iz G ps).ef.length<=G.ef.length+ps.length:=by
 induction ps generalizing G with
 |nil=>exact aHK _
 |cons p ps a=>
  have:=a (G.drop p);have:=xh G p;show(iz (G.drop p) ps).ef.length<=_;rw[aIg];omega
def Ip (G:GM)(ps:List Nat)(p:Nat):iz G (ps++[p])=(iz G ps).drop p:=by unfold iz;rw[aKr];rfl
section
variable {τ:Nat} {π:PI} {st st':St} {G:GM}
def DA (h:Tg τ π st G){c:dq}{v:List UInt8}(hc:c.ok true)(U:Bx G c v ps)(L:ps.Nodup):R 46 [.ptr τ 0,.agg (bg c)] st λx st'=>x=I 0/\Kp π.W st st'/\Tg τ π st' (iz G ps):=by
 refine bK ?_;rw[w46];rw[bS,Gy];refine⟨rfl,?_⟩;have T:Kp [] st (St.new st (.cells [.ptr τ 0] 27 false)):=(Kp.refl [] st).new _;have X:(St.new st (.cells [.ptr τ 0] 27 false)).m.g st.nx=some (.cells [.ptr τ 0] 27 false):=au _ _;have n1:(St.new st (.cells [.ptr τ 0] 27 false)).nx=st.nx+1:=rfl;generalize St.new st (.cells [.ptr τ 0] 27 false)=s1 at*;rw[bS,aT];refine⟨rfl,?_⟩;have K:Kp [] s1 (St.new s1 (.cells (bg c) 109 false)):=(Kp.refl [] s1).new _;have Q:(St.new s1 (.cells (bg c) 109 false)).m.g s1.nx=some (.cells (bg c) 109 false):=au _ _;have n2:(St.new s1 (.cells (bg c) 109 false)).nx=s1.nx+1:=rfl;generalize St.new s1 (.cells (bg c) 109 false)=s2 at*;have H:=(K.keep st.nx uM wb).trans X;have w:=T.trans K wb;have F:=h.still w;have S:(bg c)[2]?=some (I c.dR):=rfl;simp only[fl,ah,af,az,Q,ar,aHN,S,aw];rcases U with⟨O,rfl,rfl⟩|⟨O,z,FV,Ja,N⟩
 .have E:aj .eql (some .int) true (I c.dR) (.int .i64 0) s2=.ok (.bool true) s2:=by rw[O];rfl
  rw[E,af,ag,aHP rfl];exact⟨afp,w.mono wb,F⟩
 .have E:aj .eql (some .int) true (I c.dR) (.int .i64 0) s2=.ok (.bool false) s2:=by rw[av,cC,aHL uM]
  simp only[E,af,ag,aHH,aHV,H,ar,aHG,aw];rw[aM (n:=4) Q rfl,af,lV,af];have J:=h.TH;have Z:st.nx∉π.W:=λhh=>by have:=J _ hh;omega
  refine(LP (st:=s2) (τ:=τ) (π:=π) (c:=c) (G:=G) (ps:=ps) (v:=v) (λq G' i page v' s=>∃done,G'=iz G done/\ps=done++i/\Tg τ π s G'/\qb G' i page v'/\s.m.g q=some (.cells (bg c) 109 false)/\q<s.nx/\st.nx<=q/\s.m.g st.nx=some (.cells [.ptr τ 0] 27 false)/\Kp π.W st s) ?_ ?_ ?_ ?_ ?_).mono ?_
  .rintro q G' i page v' s ⟨done,_,_,a,b,c,d,_⟩;exact⟨a,b,c,d⟩
  .rintro q G' p i v' s nx ⟨done,rfl,l,a1,a2,a3,a4,a5,Y,o⟩ Ba D s' b k jS;rw[dM];simp only[aIm,aIL];refine bK ?_;rw[w94]
   have A:st.nx<s.nx:=by
    have:=o.nx;rcases aIX st.nx s.nx with h1|h1
    .exact h1
    .omega
   have P:=(k.keep st.nx A wb).trans Y;have r:=a1.still k;rw[az,P,ar,aHG,aw];refine r.get' ?_;have j:(iz G done).bW p:=by obtain⟨_,_,y,_⟩:=a2;exact y
   refine(Et r.pg j).mono ?_;rintro _ YH ⟨rfl,f,u⟩;have Ki:=k.nx;have C:∀x,st.nx<=x->x∉π.W:=λx M hh=>by have:=J x hh;omega
   refine⟨rfl,_,done++[p],(Ip _ _ _).symm,by rw[l];simp,r.of f u,?_,(f.keep q uM (C q a5)).trans ((k.keep q a4 wb).trans a3),by have:=f.nx;omega,a5,(f.keep st.nx uM Z).trans P,(o.trans k wb).trans f afk⟩
   have Tq:p∉i:=by
    rw[l]at L;have:=(aIE.1 L).2.1;exact(aHX.1 this).1
   exact D.kept λx M=>⟨λy=>((rO a1.pg.X8 j).bW x).2 ⟨y,λe=>Tq (e▸M)⟩,rfl⟩
  .intro s3 q k3 V Kn B;refine⟨[],rfl,rfl,F.still k3,N,B,Kn,uM,(k3.keep _ uM wb).trans H,(w.mono wb).trans k3 wb⟩
  .rw[N.len,z];unfold bN;rw[aHM uM]
  .omega
  .rintro _ s3 ⟨rfl,q,G',_,done,rfl,l,a1,_,_,_,_,_,o⟩;rw[aIJ]at l;subst l;exact⟨rfl,o,a1⟩
def Az (b:n<=100000)(s:St):qD 5 1 [.int .u8 0] (I n) (I n) s=.ok (.slice s.nx 0 n n 0) (St.new s (.cells (ai (List.replicate n 0)) 5 false)):=by
 have e:qD 5 1 [.int .u8 0] (I n) (I n) s=bE (Bool.and (Nat.ble n n) (Bool.and (Nat.ble (Nat.mul 1 n) 281474976710656) (Nat.ble n 9223372036854775807)))
  (.ok (.slice s.nx 0 n n 0) ⟨s.m.put s.nx (some (.cells (cH n [.int .u8 0]) 5 false)),s.nx+1⟩) .bad:=rfl
 have a:Nat.mul 1 n=n:=aJV n;rw[e,O6,aO,aHP (by simp only[aIf,aIr,a];omega)];rfl
def Hb {b off cap:Nat}{L:List CV}{t:TypeId}{s:St}(a:s.m.g b=some (.cells L t g))(f:d.length<=n)(i:off+d.length<=L.length):
 ∃s',gR true 1 (.slice b off n cap 0) (.str d) s=.ok (I d.length) s'/\s'.nx=s.nx/\s'.m.g b=some (.cells (bz L off (ai d)) t g)/\∀q,q≠b->s'.m.g q=s.m.g q:=by
 have e:gR true 1 (.slice b off n cap 0) (.str d) s=(match cellsOf true 1 (min d.length n) (.str d) s with
  |some t=>bE (Nat.beq (min d.length n) 0) (zn .i64 s 0)
   (bE (Bool.and (bh t) (Bool.or (Nat.beq 0 0) (Nat.ble 1 cap)))
    (match s.m.g b with
    |some (.cells l ty g)=>Option.rec (Option.rec .bad (λs'=>zn .i64 ⟨s.m.put b (some (.cells s' ty g)),s.nx⟩ (min d.length n)) (Cy l off t (off+cap*0))) (λs'=>zn .i64 ⟨s.m.put b (some (.cells s' ty g)),s.nx⟩ (min d.length n)) (dZ l off t)
    |_=>.bad) .bad)
  |none=>.bad):=rfl
 have k:cellsOf true 1 d.length (.str d) s=some (ai d):=by
  have:cellsOf true 1 d.length (.str d) s=if d.length<=d.length then some ((d.take d.length).map bP)else none:=rfl
  rw[this,aHP (aHK _),List.take_length];rfl
 rw[e,aIC f,k];dsimp only
 by_cases j:d.length=0
 .have:=aIh.1 j;subst this;refine⟨s,rfl,rfl,?_,λ_ _=>rfl⟩;rw[a];have:bz L off (ai [])=L:=AE L off;rw[this]
 .have p:Nat.beq d.length 0=false:=by cases h:Nat.beq d.length 0 with|false=>rfl|true=>rw[aIs]at h;omega
  have o:dZ L off (ai d)=some (bz L off (ai d)):=by unfold dZ;rw[aHP (by rw[bF];exact i)];rfl
  rw[p,bu,a];dsimp only;rw[o];exact⟨St.set s b (.cells (bz L off (ai d)) t g),rfl,rfl,an _ _ _,λq c=>ak _ _ _ _ c⟩
def Y8 (h:Tg τ π st G){f a c:Nat}{ty:TypeId}(N:0<G.cD)(P:st.m.g f=some (.cells [.ptr τ 0] ty g))(h8:st.m.g a=some (.cells [I c] 3 false))(l1:f<st.nx)(l8:a<st.nx)(V:f∉π.all)(M:a∉π.all)(z:a≠τ)(gV:f≠a)(hd:d.length<=480)(Cq:c<=rB):
 R 96 [.str d,.ptr f 0,.ptr a 0] st λx st'=>x=I 0/\Kp (a::π.W) st st'/\Tg τ π st' (G.alloc.put G.dA (.dR c d))/\st'.m.g a=some (.cells [I G.dA] 3 false):=by
 refine bK ?_;rw[w96];rw[az,P,ar,aHG,aw];refine h.get' ?_;refine(Lz h.pg N).mono ?_;rintro _ s1 ⟨rfl,k,p1⟩;have Y:=h.of k p1;have ha:=uq h.pg.X8 N;have v:f∉π.W:=λhh=>V (PI.DK hh);have j:a∉π.W:=λhh=>M (PI.DK hh);have g1:=(k.keep f l1 v).trans P;have g8:=(k.keep a l8 j).trans h8;have n1:=k.nx;have e1:aj .neq (some .int) true (I 0) (.int .i64 0) s1=.ok (.bool false) s1:=rfl;have H:=Az (n:=512) uM s1;have J:qD 5 1 [.int .u8 0] (.int .i64 512) (.int .i64 512) s1=.ok (.slice s1.nx 0 512 512 0) (St.new s1 (.cells (ai (List.replicate 512 0)) 5 false)):=H;simp only[aD,aI,af,e1,ag,aHH,aHV,J,aP,bD];have r:Kp [] s1 (St.new s1 (.cells (ai (List.replicate 512 0)) 5 false)):=(Kp.refl [] s1).new _;have gb:(St.new s1 (.cells (ai (List.replicate 512 0)) 5 false)).m.g s1.nx=some (.cells (ai (List.replicate 512 0)) 5 false):=au _ _;have n2:(St.new s1 (.cells (ai (List.replicate 512 0)) 5 false)).nx=s1.nx+1:=rfl;generalize St.new s1 (.cells (ai (List.replicate 512 0)) 5 false)=s2 at*;have l:=(r.keep a uM wb).trans g8;have Z:=(r.keep f uM wb).trans g1;have X:=Y.still r;have F:aR 1 (.slice s1.nx 0 512 512 0) none (some (.int .i64 4)) s2=.ok (.slice s1.nx 0 4 512 0) s2:=rfl;simp only[F,af,az,l,ar,aHG,aw];refine(TX (b:=s1.nx) (off:=0) (len:=4) (cap:=512) (n:=c) gb uM wb uM (by have:c<=2147483647:=Cq;omega)).mono ?_;rintro _ s3 ⟨y,n3,Q⟩
 have qf:bz (ai (List.replicate 512 0)) 0 (ai (be 4 c))=ai (be 4 c)++ai (List.replicate 508 0):=by
  unfold bz;rw[aJG,aIm,bF,iC]
  congr 1
 rw[qf]at Q;have K:aR 1 (.slice s1.nx 0 512 512 0) (some (.int .i64 4)) none s3=.ok (.slice s1.nx 4 508 508 0) s3:=rfl;have Ml:(ai (be 4 c)++ai (List.replicate 508 0)).length=512:=by rw[aHR,bF,bF,iC,aIF]
 obtain⟨s4,c1,c2,T,s⟩:=Hb (b:=s1.nx) (off:=4) (n:=508) (cap:=508) (d:=d) Q uM uM
 have kJ:bz (ai (be 4 c)++ai (List.replicate 508 0)) 4 (ai d)=ai (iU (.dR c d)):=by
  have e:=qG (ai (be 4 c)) (ai (List.replicate 508 0)) (ai d);rw[bF,iC]at e;rw[e];unfold iU;rw[bI,bI]
  congr 2
  unfold ai;rw[<-aJs,aJY,aIx]
 rw[kJ]at T;have D:=(y.keep a uM zS).trans l;have C:=(s a uM).trans D;have My:=(s f uM).trans ((y.keep f uM zS).trans Z);have AZ:bz [I c] 0 [I G.dA]=[I G.dA]:=rfl;simp only[aKc,K,af,c1,aP,aH,C,aS,ji,AZ];refine⟨⟨rfl,rfl,wb⟩,?_⟩;have k4:Kp [s1.nx] s3 s4:=⟨uM,λq i hn=>s q (by simpa using hn),λjH q i=>by rw[s q uM];exact jH q uM⟩;have k5:Kp [a] s4 (St.set s4 a (.cells [I G.dA] 3 false)):=(Kp.refl _ s4).set _ (.inl wb) uM;have B:(St.set s4 a (.cells [I G.dA] 3 false)).m.g a=some (.cells [I G.dA] 3 false):=an _ _ _;have E:(St.set s4 a (.cells [I G.dA] 3 false)).m.g f=some (.cells [.ptr τ 0] ty g):=(ak _ _ _ _ gV).trans My;have A:(St.set s4 a (.cells [I G.dA] 3 false)).m.g s1.nx=some (.cells (ai (iU (.dR c d))) 5 false):=(ak _ _ _ _ uM).trans T;have n5:(St.set s4 a (.cells [I G.dA] 3 false)).nx=s3.nx:=c2;generalize St.set s4 a (.cells [I G.dA] 3 false)=p at*;have S:s1.nx∉π.all/\s1.nx≠τ:=⟨λhh=>adv,λe=>abx⟩;have U:Kp [s1.nx,a] s2 p:=((y.mono wb).trans k4 wb).trans k5 wb
 have u:=X.wV U λb O=>by
  simp at O;rcases O with rfl|rfl
  .exact S
  .exact⟨M,z⟩
 simp only[E,ar,aHG,aw];refine u.get' ?_;have L:s1.nx<p.nx:=uM
 have o:=Ju (nx:=c) (d:=d) uM
 have jS:Sl p [π.bn,π.bc] (.slice s1.nx 0 512 512 0) 1 (ai (iU (.dR c d))):=.inr ⟨s1.nx,0,512,512,0,rfl,by rw[bF,o],⟨aHK _,.inl rfl⟩,.inr ⟨λhh=>by
  have:s1.nx∈π.W:=by unfold PI.W;simp at hh;rcases hh with h|h<;>simp[h]
  exact S.1 (PI.DK this),L,_,_,_,A,by rw[bF,o];omega,by rw[aIn,aHS (by rw[bF,o];omega)]⟩⟩
 refine(Ly u.pg ((ha.bW _).2 (.inr rfl)) jS o).mono ?_;rintro _ s6 ⟨rfl,w,p6⟩;have mM:Kp [s1.nx,a] s1 p:=(r.mono wb).trans U wb;refine⟨rfl,?_,u.of w p6,(w.keep a uM j).trans B⟩;refine((k.mono (by intro q i;simp[i])).trans mM (by intro q i;simp at i;rcases i with rfl|rfl;right;omega;left;simp)).trans w (by intro q i;simp[i])
end
end
