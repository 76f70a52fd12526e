import Derived.Test.YtomffjeofpafnaaGreatDoorPagC
namespace Lim
open Go
noncomputable section
set_option linter.defProp false
set_option maxRecDepth 100000
structure Tg (τ:Nat)(π:PI)(st:St)(G:GM):Prop where
 pg:Pg π st G
 lt:τ<st.nx
 not:τ∉π.all
 get:∃ty g,st.m.g τ=some (.cells [.ptr π.p 0] ty g)
 fr:eM st
section
variable {τ:Nat} {π:PI} {st st':St} {G:GM}
def PI.Cv {b:Nat}(h:b∈π.W):b∈π.all:=by unfold PI.W at h;unfold PI.all;simp at h⊢;rcases h with h|h|h|h<;>simp[h]
def Tg.still (h:Tg τ π st G)(hk:Kp [] st st'):Tg τ π st' G:=by
 obtain⟨ty,g,hg⟩:=h.get;exact⟨h.pg.still hk,aDM h.lt hk.nx,h.not,⟨ty,g,(hk.keep τ h.lt rq).trans hg⟩,hk.fresh h.fr⟩
def Tg.of (h:Tg τ π st G){G':GM}(hk:Kp π.W st st')(hp:Pg π st' G'):Tg τ π st' G':=by
 obtain⟨ty,g,hg⟩:=h.get;exact⟨hp,aDM h.lt hk.nx,h.not,⟨ty,g,(hk.keep τ h.lt λhh=>h.not (PI.Cv hh)).trans hg⟩,hk.fresh h.fr⟩
def Tg.get' (h:Tg τ π st G){k:CV->Prop}(hk:k (.ptr π.p 0)):eW 0 (.ptr τ 0) st k:=by
 obtain⟨ty,g,hg⟩:=h.get;simp only[eW,br,ah,af,aC,hg,ar,aDx,aDo,az];exact hk
def Tg.RV (h:Tg τ π st G):∀b∈π.W,b<st.nx:=h.pg.RV
def yP (h:Tg τ π st G){page:Nat}{n:bg}(hn:nf G page n):R 90 [.ptr τ 0,I page] st (wy n st):=by
 refine bN ?_;rw[w90];have k1:Kp [] st (St.new st (.cells [.bool false,.ae,.ae] 105 false)):=(Kp.refl [] st).new _;have g1:(St.new st (.cells [.bool false,.ae,.ae] 105 false)).m.g st.nx=some (.cells [.bool false,.ae,.ae] 105 false):=aw _ _;have n1:(St.new st (.cells [.bool false,.ae,.ae] 105 false)).nx=st.nx+1:=rfl;rw[cE,aT];generalize St.new st (.cells [.bool false,.ae,.ae] 105 false)=s1 at*;have h1:=h.still k1;refine h1.get' ?_;refine(OD h1.pg hn.bS).mono ?_;rintro _ s2 ⟨k2,hl,b,rfl,g2,b1,b2⟩;rw[hn.cont]at hl g2;have n2:=k2.nx;have e1:ai .eql (some .int) true (I 0) (.int .i64 1) s2=.ok (.bool false) s2:=rfl;have e2:ai .neq (some .int) true (I 0) (.int .i64 0) s2=.ok (.bool false) s2:=rfl;simp only[aD,aG,af,cK,e1,ag,aDp,aDE,aH,aI,e2];have M7:(aj (ix (.node n))).length=512:=acT
 have lu:Sl s2 [] (.slice b 0 512 512 1) 1 (aj (mD n++List.replicate (512-n.size) 0)):=.inr ⟨b,0,512,512,1,rfl,(show(aj (ix (.node n))).length=512*1 by rw[M7]),⟨aDt _,.inr rfl⟩,.inr ⟨rq,b2,_,_,_,g2,pX,by rw[aDX,aDA pX];rfl⟩⟩;have kW:=k1.trans k2 rq;have hs:=hn.size;refine(MC (kW.fresh h.fr) lu hn.ok pX).mono ?_;rintro _ s5 ⟨x,rfl,k5,hx⟩;have n5:=k5.nx;obtain⟨vc,vk,rfl,c1,c2⟩:=hx [st.nx] AI;obtain⟨x1,x2,x3⟩:=c1.bD;obtain⟨y1,y2,y3⟩:=c2.bD;simp only[aD,aG,af];refine ud rfl rfl aaT ?_;have k7:Kp [] s5 (St.new s5 (.cells [.bool n.leaf,vc,vk] 105 false)):=(Kp.refl _ s5).new _;have g7:(St.new s5 (.cells [.bool n.leaf,vc,vk] 105 false)).m.g s5.nx=some (.cells [.bool n.leaf,vc,vk] 105 false):=aw _ _;have n7:(St.new s5 (.cells [.bool n.leaf,vc,vk] 105 false)).nx=s5.nx+1:=rfl;generalize St.new s5 (.cells [.bool n.leaf,vc,vk] 105 false)=s7 at*;have hk7:=(kW.trans k5 rq).trans k7 rq;have Ui:=(k7.keep st.nx pX rq).trans ((k5.keep st.nx pX rq).trans ((k2.keep st.nx pX rq).trans g1));have e3:ai .eql (some .int) true (I 0) (.int .i64 0) s7=.ok (.bool true) s7:=rfl;have hlen:=(c1.mono (k7.mono rq)).len n.cells.length (bM _) pX s7
 have fin:us (aK 3 (.ptr s5.nx 0) s7) λew=>upon (aQ 3 (.ptr st.nx 0) ew s7) λ_ s9=>us (aK 3 (.ptr st.nx 0) s9) λeg=>wy n st (.tuple [eg,I 0]) s9:=by
  have kq:bo [.bool false,.ae,.ae] 0 [.bool n.leaf,vc,vk]=[.bool n.leaf,vc,vk]:=rfl;rw[aR (n:=3) g7 rfl,af,aF,Ui,aS,aV,kq];refine⟨⟨rfl,aaT,rq⟩,?_⟩;rw[aR (n:=3) (aq _ _ _) rfl,af];have k9:Kp [st.nx] s7 (St.set s7 st.nx (.cells [.bool n.leaf,vc,vk] 105 false)):=(Kp.refl _ s7).set _ (.inl rq) pX;refine⟨_,rfl,hk7.set _ (.inr (aDt _)) pX,λX hX=>?_⟩;have:=(hx (X++[st.nx]) (by intro b hb;simp at hb;rcases hb with h|h;have:=hX b h;omega;omega)).mono (k7.mono rq);exact(this.mono (k9.mono rq)).dz (by intro q hq;simp[hq])
 have ku:=hn.full;cases fY:n.leaf with
 |true=>
  rw[fY]at g7;simp only[e3,af,aL,aDQ,jV,bp,ah,aC,g7,ar,aDx,aDo,az,cN,aDJ,aJ,aDp,aDE,cH,ag];exact fin
 |false=>
  rw[fY]at g7 ku;have gq:n.cells≠[]:=by rcases ku with h|h;cases h;exact h
  have Pm:=aFg.2 gq;have e4:ai .eql (some .int) true (I n.cells.length) (.int .i64 0) s7=.ok (.bool false) s7:=R6
  simp only[e3,af,aL,aDQ,jV,bp,ah,aC,g7,ar,aDx,aDq,aDo,az,cN,aDI,aJ,hlen,e4,ag,aDp,aDE];exact fin
def Nl (m:Nat):cJ m [.int .u8 0]=aj (List.replicate m 0):=by
 induction m with
 |zero=>rfl
 |succ m ih=>
  have:cJ (m+1) [CV.int .u8 0]=.int .u8 0::cJ m [.int .u8 0]:=by simp[cJ,aFz]
  rw[this,ih];rfl
def ny (h:Tg τ π st G){page:Nat}{n:bg}{v:CV}(hu:G.bS page)(hv:IsNode st [] v n)(hn:n.ok)(hs:n.size<=512):R 100 [.ptr τ 0,I page,v] st λy st'=>y=I 0/\Kp π.W st st'/\Tg τ π st' (G.put page (.node n)):=by
 have Es:=hv;obtain⟨vc,vk,rfl,h1,h2⟩:=hv;refine bN ?_;rw[akl];rw[bW,aV];refine⟨rfl,?_⟩;have k1:Kp [] st (St.new st (.cells [.bool n.leaf,vc,vk] 105 false)):=(Kp.refl [] st).new _;have g1:(St.new st (.cells [.bool n.leaf,vc,vk] 105 false)).m.g st.nx=some (.cells [.bool n.leaf,vc,vk] 105 false):=aw _ _;generalize St.new st (.cells [.bool n.leaf,vc,vk] 105 false)=s1 at*;have t1:=h.still k1;rw[aR (n:=3) g1 rfl,af];refine(My t1.fr (Es.mono k1) hn hs).mono ?_;rintro _ s2 ⟨x,rfl,m2⟩;have k2:=m2.kp;have t2:=t1.still k2;obtain⟨ty,g,hg⟩:=t2.get;have e1:ai .neq (some .int) true (I 0) (.int .i64 0) s2=.ok (.bool false) s2:=rfl;have e2:ai .sub none true (.int .i64 512) (I n.size) s2=.ok (I ((512-n.size:Nat):Int)) s2:=EH
 have hlen:=(m2.sl [] rq).len n.size adp pX s2
 have aqu:cW .zeros 1 [(.int .u8 0)] (I ((512-n.size:Nat):Int)) s2=some (512-n.size,aj (List.replicate (512-n.size) 0)):=by
  have:cW .zeros 1 [(.int .u8 0)] (I ((512-n.size:Nat):Int)) s2=bz (Nat.ble (512-n.size) 1099511627776) (some (512-n.size,cJ (512-n.size) [.int .u8 0])) none:=rfl;rw[this,aO,aDy aah,Nl]
 obtain⟨F,a1,a2,a3⟩:=m2;have si:(aj (mD n)).length=n.size:=adp
 obtain⟨v',s3,F',b1,b2,b3,b4⟩:=a2.append (n:=512-n.size) (bytes:=1) (T:=aj (List.replicate (512-n.size) 0)) pX rq (bC _) (λb hb=>(a3 b hb).2) (by simp[bg.size]at*;omega);simp only[aD,aG,af,e1,ag,aDp,aDE,bA,br,ah,aC,hg,ar,aDx,aDo,az,hlen,e2,aqu,b1,aT];have k3:=a1.trans b3 λq hq=>.inr (a3 q hq).1;have t3:=t1.still k3;obtain⟨ty3,g3,hg3⟩:=t3.get;rw[<-bF]at b2
 have lu:Sl s3 [π.bn,π.bc] v' 1 (aj (ix (.node n))):=b2.sl λb hb=>⟨λhh=>by
  have h9:=h.RV b (by unfold PI.W;simp at hh;rcases hh with h|h<;>simp[h]);have:=k1.nx;have:=k2.nx;rcases(b4 b hb).1 with h|h
  .have:=(a3 b h).1;omega
  .omega,(b4 b hb).2⟩
 refine(JP t3.pg hu lu (HZ hs)).mono ?_;rintro _ s4 ⟨rfl,k4,p4⟩;simp only[hg3,ar,aDo,az];have kV:=k1.trans k3 rq;have th:=(kV.mono rq).trans k4 adt;exact⟨⟨⟨adu,adu⟩,adu⟩,adu,adu,th,h.of th p4⟩
def CK (h:Tg τ π st G){n:bg}{v:CV}(hf:0<G.cP)(hv:IsNode st π.W v n)(hn:n.ok)(hs:n.size<=512):R 48 [.ptr τ 0,v] st λy st'=>y=.tuple [I G.dV,I 0]/\Kp π.W st st'/\Tg τ π st' (G.alloc.put G.dV (.node n)):=by
 have Es:=hv;obtain⟨vc,vk,rfl,h1,h2⟩:=hv;refine bN ?_;rw[w48];rw[bW,aV];refine⟨rfl,?_⟩;have k1:Kp [] st (St.new st (.cells [.bool n.leaf,vc,vk] 105 false)):=(Kp.refl [] st).new _;have g1:(St.new st (.cells [.bool n.leaf,vc,vk] 105 false)).m.g st.nx=some (.cells [.bool n.leaf,vc,vk] 105 false):=aw _ _;have n1:(St.new st (.cells [.bool n.leaf,vc,vk] 105 false)).nx=st.nx+1:=rfl;generalize St.new st (.cells [.bool n.leaf,vc,vk] 105 false)=s1 at*;have t1:=h.still k1;refine t1.get' ?_;refine(JQ t1.pg hf).mono ?_;rintro _ s2 ⟨rfl,k2,p2⟩;have t2:=t1.of k2 p2;have hW:st.nx∉π.W:=λhh=>by have:=h.RV _ hh;omega
 have g2:=(k2.keep st.nx pX hW).trans g1;have e1:ai .neq (some .int) true (I 0) (.int .i64 0) s2=.ok (.bool false) s2:=rfl;simp only[aD,aG,af,e1,ag,aDp,aDE];rw[aR (n:=3) g2 rfl,af];have ha:=tB h.pg.V5 hf;have hv2:IsNode s2 [] (.agg [.bool n.leaf,vc,vk]) n:=((Es.mono (k1.mono rq)).mono k2).dz rq;refine(ny t2 ((ha.bS _).2 (.inr rfl)) hv2 hn hs).mono ?_;rintro _ s3 ⟨rfl,k3,t3⟩;exact⟨rfl,((k1.mono rq).trans k2 adt).trans k3 adt,t3⟩
def Sp {v:CV}{n:bg}{key:cn}(h:IsNode st [] v n)(hn:n.ok)(hl:n.cells.length<=100000):R 92 [v,.str key] st λx st'=>x=I (iM n key)/\Kp [] st st':=by
 have h':=h;obtain⟨vc,vk,rfl,h1,h2⟩:=h;refine bN ?_;rw[w92];rw[bW,aV];refine⟨rfl,?_⟩;have k1:Kp [] st (St.new st (.cells [.bool n.leaf,vc,vk] 105 false)):=(Kp.refl [] st).new _;have g1:(St.new st (.cells [.bool n.leaf,vc,vk] 105 false)).m.g st.nx=some (.cells [.bool n.leaf,vc,vk] 105 false):=aw _ _;generalize St.new st (.cells [.bool n.leaf,vc,vk] 105 false)=s1 at*;rw[aR (n:=3) g1 rfl,af];refine(Qn (h'.mono k1) hl).mono ?_;rintro _ s2 ⟨rfl,k2⟩;have hle:n.find key<=n.cells.length:=aFC;have xi:=XK hn.sorted key;have hk:=k1.trans k2 rq;simp only[aD,aG,af,ag];cases hc:n.cells[n.find key]? with
 |none=>
  rw[hc]at xi;have hb:n.hasB key=false:=by unfold bg.hasB;rw[hc]
  rw[hb,aDv wI];exact⟨by rw[xi],hk⟩
 |some c=>
  rw[hc]at xi;dsimp only at xi;have hb:n.hasB key=decide (c.key=key):=by unfold bg.hasB;rw[hc]
  rw[hb]
  by_cases he:c.key=key
  .rw[aDy he]at xi;rw[aDz he,aDy rfl,gT _ pX,af];exact⟨by rw[xi],hk⟩
  .rw[aDv he]at xi;rw[aDr he,aDv wI];exact⟨by rw[xi],hk⟩
end
section
variable {X:List Nat}{rs:List (List CV)}{l:List cV}{Y:List Nat}{x:CV}
section
variable {τ:Nat} {π:PI} {st st':St} {G:GM}
def El (st:St)(X:List Nat)(row:List CV)(s:cV):Prop:=∃vc vk,row=[I s.page,I s.at_,.bool s.n.leaf,vc,vk]/\Sl st X vc 4 (bG s.n.cells)/\Sl st X vk 1 (cF s.n.kids)
def dI (st:St)(X:List Nat):List (List CV)->List cV->Prop
 |[],[]=>True
 |r::rs,s::l=>El st X r s/\dI st X rs l
 |_,_=>False
def dI.mono (h:dI st X rs l)(hk:Kp X st st'):dI st' X rs l:=by
 induction rs generalizing l with
 |nil=>cases l with|nil=>trivial|cons s l=>exact h
 |cons r rs ih=>cases l with
  |nil=>exact h
  |cons s l=>obtain⟨⟨vc,vk,a,b,c⟩,d⟩:=h;exact⟨⟨vc,vk,a,b.mono hk,c.mono hk⟩,ih d⟩
def dI.dz (h:dI st X rs l)(hy:∀q∈Y,q∈X\/st.nx<=q):dI st Y rs l:=by
 induction rs generalizing l with
 |nil=>cases l with|nil=>trivial|cons s l=>exact h
 |cons r rs ih=>cases l with
  |nil=>exact h
  |cons s l=>obtain⟨⟨vc,vk,a,b,c⟩,d⟩:=h;exact⟨⟨vc,vk,a,b.dz hy,c.dz hy⟩,ih d⟩
def dI.snoc {r:List CV}{s:cV}(h:dI st X rs l)(hr:El st X r s):dI st X (rs++[r]) (l++[s]):=by
 induction rs generalizing l with
 |nil=>cases l with|nil=>exact⟨hr,adu⟩|cons s l=>exact h.elim
 |cons r rs ih=>cases l with|nil=>exact h.elim|cons s l=>exact⟨h.1,ih h.2⟩
def dI.len (h:dI st X rs l):rs.length=l.length:=by
 induction rs generalizing l with
 |nil=>cases l with|nil=>rfl|cons s l=>exact h.elim
 |cons r rs ih=>cases l with|nil=>exact h.elim|cons s l=>simp[ih h.2]
def dI.w (h:dI st X rs l):∀x∈rs,x.length=5:=by
 induction rs generalizing l with
 |nil=>simp
 |cons r rs ih=>cases l with
  |nil=>exact h.elim
  |cons s l=>
   obtain⟨⟨vc,vk,rfl,b,c⟩,d⟩:=h;intro x hx;rcases aDs.1 hx with rfl|hx
   .rfl
   .exact ih d x hx
def dI.at (h:dI st X rs l){i:Nat}(hi:i<l.length):∃ff:i<rs.length,El st X rs[i] l[i]:=by
 induction rs generalizing l i with
 |nil=>cases l with
  |nil=>simp at hi
  |cons s l=>exact h.elim
 |cons r rs ih=>cases l with
  |nil=>exact h.elim
  |cons s l=>
   cases i with
   |zero=>exact⟨rq,h.1⟩
   |succ i=>obtain⟨a,b⟩:=ih h.2 (i:=i) Wv;exact⟨AI,b⟩
def dI.one (h:dI st X rs l):aU rs.flatten=true:=by
 induction rs generalizing l with
 |nil=>rfl
 |cons r rs ih=>cases l with
  |nil=>exact h.elim
  |cons s l=>
   obtain⟨⟨vc,vk,rfl,b,c⟩,d⟩:=h;rw[aES,qV,ih d];simp[b.bD.2.1,c.bD.2.1]
def eZ (st:St)(X:List Nat)(x:CV)(l:List cV):Prop:=∃rows,Sl st X x 5 rows.flatten/\dI st X rows l
def eZ.mono (h:eZ st X x l)(hk:Kp X st st'):eZ st' X x l:=by
 obtain⟨rows,a,b⟩:=h;exact⟨rows,a.mono hk,b.mono hk⟩
def eZ.dz (h:eZ st X x l)(hy:∀q∈Y,q∈X\/st.nx<=q):eZ st Y x l:=by
 obtain⟨rows,a,b⟩:=h;exact⟨rows,a.dz hy,b.dz hy⟩
def Uz (G:GM)(key:cn)(L:List bt)(st:St)(y:CV)(st':St):Prop:=
 Kp [] st st'/\∃x,y=.tuple [x,I 0]/\((G.root=0/\x=.ae)\/∃f rest,uW G key f rest L/\rest.length<=16/\∀X,(∀b∈X,b<st.nx)->eZ st' X x (rest.reverse++[f]))
def Dg (h:Tg τ π st G){L:List bt}(ht:gK G L)(key:cn):R 45 [.ptr τ 0,.str key] st (Uz G key L st):=by
 refine bN ?_;rw[w45];simp only[cK,aH,aI];refine h.get' ?_;refine(Iv h.pg).same ?_
 by_cases h0:G.root=0
 ·
   refine bK (λfu vs s=>vs=[.ptr τ 0,.str key,.ae,I G.root]/\s=st) ?_ (n:=0) ⟨rfl,rfl⟩;rintro fu vs s k ⟨rfl,rfl⟩ next;have e1:ai .neq (some .int) true (I G.root) (.int .i64 0) s=.ok (.bool false) s:=by rw[h0];rfl
   simp only[aH,aI,e1,af,ag,aDp,aDE];exact⟨Kp.refl _ _,.ae,rfl,.inl ⟨h0,rfl⟩⟩
 .obtain⟨H,ps0,adU,Yl⟩:=ht.tree.resolve_left λh=>h0 h.1;have hH:=Yl.deep adU ht.ok
  refine bK (λfu vs s=>∃(l:List cV) (hh page:Nat) (lo:cn) (hi:Option cn) (Ll Lr Lm:List bt) (ps q:List Nat) (x:CV) (rows:List (List CV)) (F:List Nat),
   fu=hh/\vs=[.ptr τ 0,.str key,x,I page]/\Kp [] st s/\Ctx G hh l.reverse page lo hi Ll Lr ps/\Sub G hh page lo hi Lm q/\kh lo key/\DD key hi/\(q++ps).Nodup/\Ll++(Lm++Lr)=L/\l.length+hh=H/\Own s x 5 107 rows.flatten F/\(∀b∈F,st.nx<=b/\b<s.nx)/\
   (∀X,(∀b∈X,b<st.nx\/b∈F)->dI s X rows l)) ?_ (n:=H) ⟨[],H,G.root,[],none,[],[],L,[],ps0,.ae,[],[],rfl,rfl,Kp.refl _ _,⟨rfl,rfl,rfl,rfl,rfl,rfl⟩,Yl,S0 _,adu,by simpa using adU,rq,rq,.inl ⟨rfl,rfl,rfl⟩,rq,λX hX=>trivial⟩
  rintro fu vs s k ⟨l,hh,page,lo,hi,Ll,Lr,Lm,ps,q,x,rows,F,rfl,rfl,hk,yk,tN,Eu,HG,je,hL,hlen,xf,hF,fk⟩ next;have HB:=tN;obtain⟨n,qn,hn,lz,rfl⟩:=tN;have Pm:=hn.bS.1;have e1:ai .neq (some .int) true (I page) (.int .i64 0) s=.ok (.bool true) s:=by rw[ay,fq,aDr pX];rfl
  simp only[aH,aI,e1,af,ag,aDQ];have ts:=h.still hk;have hns:=hk.nx;refine(yP ts hn).mono ?_;rintro _ s3 ⟨xn,rfl,k3,hxn⟩;have n3:=k3.nx;obtain⟨vc,vk,rfl,c1,c2⟩:=hxn [] rq;obtain⟨x1,x2,x3⟩:=c1.bD;obtain⟨y1,y2,y3⟩:=c2.bD;simp only[aD,aG,af];refine ud rfl rfl aaT ?_;have k5:Kp [] s3 (St.new s3 (.cells [.bool n.leaf,vc,vk] 105 false)):=(Kp.refl _ s3).new _;have g5:(St.new s3 (.cells [.bool n.leaf,vc,vk] 105 false)).m.g s3.nx=some (.cells [.bool n.leaf,vc,vk] 105 false):=aw _ _;have n5:(St.new s3 (.cells [.bool n.leaf,vc,vk] 105 false)).nx=s3.nx+1:=rfl;generalize St.new s3 (.cells [.bool n.leaf,vc,vk] 105 false)=s5 at*;have Gv:=k3.trans k5 rq;have o5:=xf.keep Gv λb hb=>⟨(hF b hb).2,rq⟩;have VT:=(fk [] rq);have zR:=VT.len;have Vk:=fB VT.w;have sl5:Sl s5 [] x 5 rows.flatten:=o5.sl λb hb=>⟨rq,aaM⟩;have e2:ai .neq (some .int) true (I 0) (.int .i64 0) s5=.ok (.bool false) s5:=rfl;have e3:ai .eql (some .int) true (I rows.length) (.int .i64 40) s5=.ok (.bool false) s5:=R6
  have qC:n.cells.length<=512:=by
   have:=eT n.leaf n.cells;have:=hn.size;rw[cc]at this;omega
  simp only[e2,ag,aDp,aDE,sl5.len rows.length Vk pX s5,af,e3,fl,ah,aC,g5,ar,aDx,aDo,az];have DQ:IsNode s5 [] (.agg [.bool n.leaf,vc,vk]) n:=⟨vc,vk,rfl,c1.mono k5,c2.mono k5⟩
  have push:∀(s6:St) (at_:Nat) (K:CV->St->Prop),Kp [] s5 s6->(∀v' s8 F',Own s8 v' 5 107 (rows++[[I page,I at_,.bool n.leaf,vc,vk]]).flatten F'->Kp [] st s8->s8.m.g s3.nx=some (.cells [.bool n.leaf,vc,vk] 105 false)->(∀b∈F',st.nx<=b/\b<s8.nx)->Sl s8 [] vk 1 (cF n.kids)->
   (∀X,(∀b∈X,b<st.nx\/b∈F')->dI s8 X (rows++[[I page,I at_,.bool n.leaf,vc,vk]]) (l++[⟨page,at_,n⟩]))->K v' s8)->
   us (aK 3 (.ptr s3.nx 0) s6) λeg=>us (bu [.int .i64 0,.int .i64 0,.bool false,.ae,.ae] [(0,1,I page),(1,1,I at_),(2,3,eg)] s6) λeh=>upon (bO 107 1 (cJ 1 [.int .i64 0,.int .i64 0,.bool false,.ae,.ae]) [(0,5,eh)] s6) λeB s7=>
    upon (bI 107 5 72 x (cW .slice 5 [.int .i64 0,.int .i64 0,.bool false,.ae,.ae] eB s7) s7) K:=by
   intro s6 at_ K k6 hK;have n6:=k6.nx;have g6:=(k6.keep s3.nx pX rq).trans g5;have DS:=Gv.trans k6 rq;rw[aR (n:=3) g6 rfl,af]
   have mR:bu [.int .i64 0,.int .i64 0,.bool false,.ae,.ae] [(0,1,I page),(1,1,I at_),(2,3,.agg [.bool n.leaf,vc,vk])] s6=.ok (.agg [I page,I at_,.bool n.leaf,vc,vk]) s6:=by
    rw[dw];simp[cq,bo]
   rw[mR,af];have o6:=o5.keep k6 λb hb=>⟨aaM,rq⟩;have axP:rows.length<=16:=pX
   refine QX 72 o6 pX (λb hb=>aaM) rfl rfl rfl aaT (by rw[Vk];omega) ?_;intro v' s8 F' a1 a2 a3
   have VZ:∀b∈F',st.nx<=b/\b<s8.nx/\(b∈F\/s6.nx<=b):=λb hb=>by
    obtain⟨p1,p2⟩:=a3 b hb;refine⟨?_,p2,p1⟩;rcases p1 with h|h
    .exact(hF b h).1
    .omega
   have mc:=(hk.trans DS rq).trans a2 λb hb=>.inr (hF b hb).1;have anb:s3.nx∉F:=λhh=>by have:=(hF _ hh).2;omega
   have hxF:=hxn F (λb hb=>(hF b hb).2);obtain⟨_,_,e9,d1,d2⟩:=hxF;cases e9;have YR:=k5.trans k6 rq;refine hK v' s8 F' (by simpa using a1) mc ((a2.keep s3.nx pX anb).trans g6) (λb hb=>⟨(VZ b hb).1,(VZ b hb).2.1⟩) (((d2.mono (YR.mono rq)).mono a2).dz rq) ?_;intro X hX;refine dI.snoc ?_ ⟨vc,vk,rfl,?_,?_⟩
   .have h1:=fk ((X.filter λb=>decide (b<st.nx))++F) (by intro b hb;simp at hb;rcases hb with h|h;exact .inl h.2;exact .inr h)
    have h2:dI s (X++F) rows l:=h1.dz (by
     intro b hb;simp only[aDB,aFk,aEJ]at hb⊢;rcases hb with hb|hb
     .rcases hX b hb with h|h
      .exact .inl (.inl ⟨hb,h⟩)
      .rcases(VZ b h).2.2 with h2|h2
       .exact .inl (.inr h2)
       .right;have:=DS.nx;omega
     .exact .inl (.inr hb))
    exact((h2.mono (DS.mono rq)).mono (a2.mono λq hq=>.inl WD)).dz (by intro b hb;simp[hb])
   all_goals
    obtain⟨_,_,e9,d3,d4⟩:=hxn ((X.filter λb=>decide (b<s.nx))++F) (by intro b hb;simp at hb;rcases hb with h|h;exact h.2;exact(hF b h).2);cases e9
    have PQ:∀b∈X++F,b∈(X.filter λb=>decide (b<s.nx))++F\/s6.nx<=b:=by
     intro b hb;simp only[aDB,aFk,aEJ]at hb⊢;rcases hb with hb|hb
     .rcases hX b hb with h|h
      .exact .inl (.inl ⟨hb,pX⟩)
      .rcases(VZ b h).2.2 with h2|h2
       .exact .inl (.inr h2)
       .exact .inr h2
     .exact .inl (.inr hb)
   .exact(((d3.mono (YR.mono rq)).dz PQ).mono (a2.mono λq hq=>.inl WD)).dz (by intro b hb;simp[hb])
   .exact(((d4.mono (YR.mono rq)).dz PQ).mono (a2.mono λq hq=>.inl WD)).dz (by intro b hb;simp[hb])
  cases fu with
  |zero=>
   have fY:n.leaf=true:=lz.leaf;rw[fY]at push;rw[fY]at g5 DQ;rw[fY,aDy rfl,aR (n:=3) g5 rfl,af];refine(Qn DQ pX).mono ?_;rintro _ s6 ⟨rfl,k6⟩;simp only[aD,aG,af];refine push s6 (n.find key) _ k6 ?_;intro v' s8 F' a1 a2 a3 a4 a5 a6;refine⟨a2,v',rfl,.inr ⟨⟨page,n.find key,n⟩,l.reverse,⟨lo,hi,Ll,Lr,Lm,ps,qn,yk,hn,lz,Eu,HG,by simpa using je,hL,rfl⟩,by rw[List.length_reverse];omega,λX hX=>?_⟩⟩;rw[aFJ];exact⟨_,a1.sl λb hb=>⟨λhh=>by have:=hX b hh;have:=(a4 b hb).1;omega,(a4 b hb).2⟩,a6 X λb hb=>.inl (hX b hb)⟩
  |succ hh=>
   have fY:n.leaf=false:=lz.leaf;obtain⟨xJ,IK,xW,La,Lm2,Lb,p2,pm,d1,d2,d3,d4,d5,d6,d7⟩:=yk.descend hn lz Eu HG;rw[fY]at push;rw[fY]at g5 DQ;rw[fY,aDv wI,aR (n:=3) g5 rfl,af];refine(Sp DQ hn.ok pX).mono ?_;rintro _ s6 ⟨rfl,k6⟩;refine push s6 (iM n key) _ k6 ?_;intro v' s8 F' a1 a2 a3 a4 a5 a6;obtain⟨ff,qz⟩:=aDD.1 d1;simp only[a3,ar,aDq,aDo,az];refine a5.idx (i:=iM n key) (by simpa using ff) _ ?_;have e4:(cF n.kids)[iM n key]'(by simpa using ff)=I xJ:=by simp[cF,qz]
   have hp0:0<xJ:=by obtain⟨_,_,hn2,_⟩:=d3;exact hn2.bS.1
   have e5:ai .eql (some .int) true (I xJ) (.int .i64 0) s8=.ok (.bool false) s8:=R6
   rw[e4,e5,af,ag,aDv wI];refine next hh _ _ pX ⟨l++[⟨page,iM n key,n⟩],hh,xJ,IK,xW,Ll++La,Lb++Lr,Lm2,p2,pm,v',_,F',rfl,rfl,a2,?_,d3,d4,d5,?_,?_,AI,a1,a4,a6⟩
   .rw[List.reverse_append];exact d2
   .exact d7.nodup_iff.2 (by simpa using je)
   .rw[<-hL,d6];simp
end
end
section
variable {v:List UInt8}{n:Nat}{G:GM}{ps:List Nat}
section
variable {st st':St}
def HR {X:List Nat}{v:CV}{l:List UInt8}(h:Sl st X v 1 (aj l))(hl:l.length<=1000)(hb:∀i,og (l.take i)<=4611686018427387904):R 141 [v] st λx st'=>x=I (og l)/\st'=st:=by
 refine bN ?_;rw[ajF];have hlen:=h.len l.length rq pX st;show us _ _;rw[hlen,af];show db _ _ _;simp only[aH,aI];refine bK (λfu vs s=>∃i,fu+i=l.length/\vs=[I (og (l.take i)),v,I l.length,I i]/\s=st) ?_ (n:=l.length) ⟨0,rfl,rfl,rfl⟩;rintro fu vs s k ⟨i,hi,rfl,rfl⟩ next;simp only[aH,aI]
 by_cases hc:i<l.length
 .have a1:ai .lss none false (I i) (I l.length) s=.ok (.bool true) s:=by rw[ay,cY,aDz pX]
  have KB:=hb i;have HH:=hb (i+1);have zP:l.take (i+1)=l.take i++[l[i]]:=by rw[aDH hc]
  rw[zP,sG]at HH;have hlt:(l[i]).toNat<256:=(l[i]).toNat_lt
  have a2:ai .shl none true (I (og (l.take i))) (.int .u64 8) s=.ok (I ((og (l.take i)*2^8:Nat):Int)) s:=by
   have e:ai .shl none true (I (og (l.take i))) (.int .u64 8) s=.ok (I (IntKind.i64.wrap ((og (l.take i):Int)*2^8))) s:=rfl;rw[e,bB pX];simp
  have a3:dy (.toInt .i64) (bP l[i]) s=.ok (I (l[i]).toNat) s:=EL _ pX _ _;have a4:ai .or none false (I ((og (l.take i)*2^8:Nat):Int)) (I (l[i]).toNat) s=.ok (I ((og (l.take i)*2^8+(l[i]).toNat:Nat):Int)) s:=BK _ _ _ pX pX _ _ _;have a5:ai .add none true (I i) (.int .i64 1) s=.ok (I ((i+1:Nat):Int)) s:=CE
  simp only[a1,af,ag,aDQ,a2];refine h.idx Hw _ ?_;have hg:(aj l)[i]'(by simpa using hc)=bP l[i]:=aaF
  rw[hg,a3,af,a4,af,a5,af];exact next (fu-1) _ _ pX ⟨i+1,pX,by rw[zP,sG],rfl⟩
 .have a1:ai .lss none false (I i) (I l.length) s=.ok (.bool false) s:=by rw[ay,cY,aDr pX]
  simp only[a1,af,ag,aDp,aDE];rw[aDA pX];exact⟨rfl,adu⟩
def Sj {b off len cap:Nat}{L:List CV}{t:TypeId}{g:Bool}(hb:st.m.g b=some (.cells L t g))(Ey:b<st.nx)(hL:off+len<=L.length)(hlen:len<=8)(hn:n<9223372036854775808):
 R 98 [.slice b off len cap 0,I n] st λx st'=>Kp [b] st st'/\st'.nx=st.nx/\st'.m.g b=some (.cells (bo L off (aj (be len n))) t g):=by
 refine bN ?_;rw[w98];simp only[cK,nQ,af,aH,aI]
 refine bK (λfu vs s=>∃i,fu+i=len/\vs=[.slice b off len cap 0,I n,I len,I i]/\Kp [b] st s/\s.nx=st.nx/\s.m.g b=some (.cells (bo L (off+len-i) (aj (be i n))) t g)) ?_ (n:=len) ⟨0,rfl,rfl,Kp.refl _ _,rfl,by
  have:aj (be 0 n)=[]:=rfl;rw[this,zC];exact hb⟩
 rintro fu vs s k ⟨i,hi,rfl,hk,IS,hg⟩ next;simp only[aH,aI]
 by_cases hc:i<len
 .have a1:ai .lss none false (I i) (I len) s=.ok (.bool true) s:=by rw[ay,cY,aDz pX]
  have a2:ai .sub none true (I len) (.int .i64 1) s=.ok (I ((len-1:Nat):Int)) s:=EH
  have a3:ai .sub none false (I ((len-1:Nat):Int)) (I i) s=.ok (I ((len-1-i:Nat):Int)) s:=EH
  have a4:ai .mul none true (.int .i64 8) (I i) s=.ok (I ((8*i:Nat):Int)) s:=Sd
  have a5:cQ 1 (.slice b off len cap 0) (I ((len-1-i:Nat):Int)) s=.ok (.ptr b (off+(len-1-i)*1)) s:=fU pX (.inl rfl) s;have a6:∀s,ai .add none true (I i) (.int .i64 1) s=.ok (I ((i+1:Nat):Int)) s:=λs=>CE
  simp only[a1,af,ag,aDQ,nQ,a2,a3,a4,CU _ _ (show i<8 from pX),NJ,Ga,a5,aF,hg,aS,a6];have e1:off+(len-1-i)*1=off+len-(i+1):=pX
  have e2:off+len-i=off+len-(i+1)+1:=pX
  have si:=gZ i n
  have e3:bo (bo L (off+len-i) (aj (be i n))) (off+len-(i+1)) [bP (UInt8.ofNat (n/256^i%256))]=bo L (off+len-(i+1)) (aj (be (i+1) n)):=by
   rw[e2,BL _ _ _ _ ada,yH];rfl
  have Ts:(bP (UInt8.ofNat (n/256^i%256))).cA=[bP (UInt8.ofNat (n/256^i%256))]:=rfl;rw[e1,Ts,e3];refine⟨⟨rfl,rfl,abp⟩,next (fu-1) _ _ pX ⟨i+1,pX,rfl,hk.set _ (.inl rq) pX,IS,aq _ _ _⟩⟩
 .have a1:ai .lss none false (I i) (I len) s=.ok (.bool false) s:=by rw[ay,cY,aDr pX]
  simp only[a1,af,ag,aDp,aDE];have Ew:i=len:=pX
  subst Ew;rw[aEL]at hg;exact⟨hk,IS,hg⟩
end
def dQ (n:Nat):Nat:=if n<=64 then 0 else (n+479)/480
def Dh {st:St}(hn:n<=4000000000):R 44 [I n] st λv st'=>v=I (dQ n)/\st'=st:=by
 refine bN ?_;rw[w44];have e1:ai .leq none true (I n) (.int .i64 64) st=.ok (.bool (decide (n<=64))) st:=aao
 have e2:ai .add none true (I n) (.int .i64 480) st=.ok (I ((n+480:Nat):Int)) st:=CE
 have e3:ai .sub none true (I ((n+480:Nat):Int)) (.int .i64 1) st=.ok (I ((n+479:Nat):Int)) st:=EH
 have e4:ai .quo none true (I ((n+479:Nat):Int)) (.int .i64 480) st=.ok (I (((n+479)/480:Nat):Int)) st:=by
  have e0:ai .quo none true (I ((n+479:Nat):Int)) (.int .i64 480) st=.ok (I (IntKind.i64.wrap (Int.tdiv ((n+479:Nat):Int) 480))) st:=rfl;have e1:Int.tdiv ((n+479:Nat):Int) 480=(((n+479)/480:Nat):Int):=rfl;rw[e0,e1,bB pX]
 unfold dQ;simp only[e1,af,ag,e2,e3,e4]
 by_cases h:n<=64
 .rw[aDz h,aDy rfl,aDy h];exact⟨rfl,adu⟩
 .rw[aDr h,aDv wI,aDv h];exact⟨rfl,adu⟩
def oV.len {page:Nat}(h:oV G ps page v):ps.length=(v.length+479)/480:=by
 induction ps generalizing page v with
 |nil=>obtain⟨_,rfl⟩:=h;rfl
 |cons p ps ih=>
  obtain⟨_,h1,_,next,_,_,h5⟩:=h;have:=ih h5;rw[aDO]at this;have:=aFg.2 h1;rw[aDT];omega
section
variable {τ:Nat} {π:PI} {st st':St}
def J7 {f:CV}{c:dh}(Inv:Nat->GM->List Nat->Nat->List UInt8->St->Prop)
 (hT:∀q G ps page v s,Inv q G ps page v s->Tg τ π s G/\oV G ps page v/\s.m.g q=some (.cells (aZ c) 109 false)/\q<s.nx)
 (hS:∀q G p ps v s next,Inv q G (p::ps) p v s->G.cont p=.dR next (v.take 480)->oV G ps next (v.drop 480)->∀s' b,Kp [] s s'->(∀X,(∀b∈X,b<s.nx)->Sl s' X b 1 (aj (v.take 480++List.replicate (480-(v.take 480).length) 0)))->fG R f [I p,b] s' λx Xi=>x=I 0/\∃G',Inv q G' ps next (v.drop 480) Xi)
    (h0:∀s1 q,Kp [] st s1->st.nx<=q->q<s1.nx->s1.m.g q=some (.cells (aZ c) 109 false)->Inv q G ps c.dR v s1) (hl:ps.length=dQ c.size) (hsz:c.size<=8192):
 R 93 [.ptr τ 0,.agg (aZ c),f] st λx st'=>x=I 0/\∃q G',st.nx<=q/\Inv q G' [] 0 [] st':=by
 refine bN ?_;rw[w93];rw[bW,aV];refine⟨rfl,?_⟩;have k1:Kp [] st (St.new st (.cells (aZ c) 109 false)):=(Kp.refl [] st).new _;have g1:(St.new st (.cells (aZ c) 109 false)).m.g st.nx=some (.cells (aZ c) 109 false):=aw _ _;have n1:(St.new st (.cells (aZ c) 109 false)).nx=st.nx+1:=rfl;generalize St.new st (.cells (aZ c) 109 false)=s1 at*;have i1:=h0 s1 st.nx k1 (aDt _) pX g1
 have GB:∀o x,(aZ c)[o]?=some x->∀s,s.m.g st.nx=some (.cells (aZ c) 109 false)->∀K:CV->Prop,fl o (.ptr st.nx 0) s K=K x:=by
  intro o x hx s hs K;simp only[fl,ah,af,aC,hs,ar,aDx,hx,az]
 rw[GB 2 (I c.dR) rfl s1 g1,cK,GB 3 (I c.size) rfl s1 g1];refine(Dh (n:=c.size) pX).same ?_;simp only[aH,aI]
 have Zc:ps.length<=1000000:=by
  rw[hl];unfold dQ;split<;>omega
 rw[<-hl];refine bK (λfu vs s=>∃(G':GM) (i page:Nat) (pr:List Nat) (vr:List UInt8),fu+i=ps.length/\pr.length=fu/\vs=[.ptr τ 0,f,.ptr st.nx 0,I page,I ps.length,I i]/\Inv st.nx G' pr page vr s) ?_ (n:=ps.length) ⟨G,0,c.dR,ps,v,rfl,rfl,rfl,i1⟩;rintro fu vs s k ⟨G',i,page,pr,vr,hi,hpr,rfl,YW⟩ next;obtain⟨hT1,hC,hg,hlt⟩:=hT _ _ _ _ _ _ YW;simp only[aH,aI,dq,af,ag]
 by_cases hc:i<ps.length
 .rw[aDz hc,aDy rfl]
  obtain⟨p,pr',rfl⟩:∃p pr',pr=p::pr':=by
   cases pr with
   |nil=>simp at hpr;omega
   |cons p pr'=>exact⟨p,pr',rfl⟩
  obtain⟨rfl,gq,hu,nx,Ab,Bd,hC2⟩:=hC;refine hT1.get' ?_;refine(OD hT1.pg hu).mono ?_;rintro _ s4 ⟨k4,vX,b,rfl,g4,b1,b2⟩;rw[Ab]at vX g4;have n4:=k4.nx;have gq4:=(k4.keep st.nx hlt rq).trans hg;have e1:ai .eql (some .int) true (I 0) (.int .i64 1) s4=.ok (.bool false) s4:=rfl;have e2:ai .gtr none true (I c.size) (.int .i64 8192) s4=.ok (.bool false) s4:=by rw[ay,dx,aDr pX]
  have e3:ai .neq (some .int) true (I 0) (.int .i64 0) s4=.ok (.bool false) s4:=rfl;have hcz:(aZ c)[3]?=some (I c.size):=rfl;have M7:(aj (ix (.dR nx (vr.take 480)))).length=512:=by simpa using vX
  have lu:∀X,(∀b∈X,b<s.nx)->Sl s4 X (.slice b 0 512 512 1) 1 (aj (ix (.dR nx (vr.take 480)))):=λX hX=>.inr ⟨b,0,512,512,1,rfl,by rw[M7],⟨aDt _,.inr rfl⟩,.inr ⟨λh=>by have:=hX b h;omega,b2,_,_,_,g4,pX,Wu⟩⟩;obtain⟨Sc,p1,p2⟩:=(lu [] rq).hi (n:=512) pX (by rw[M7]) (h:=4) pX s4
  have zP:(aj (ix (.dR nx (vr.take 480)))).take (4*1)=aj (be 4 nx):=by
   unfold ix;rw[bF,aEP (by rw[bJ,gZ])]
  rw[zP]at p2;have p1':aN 1 (.slice b 0 512 512 1) none (some (.int .i64 4)) s4=.ok Sc s4:=p1;simp only[aD,aG,af,e1,aL,aDp,aDE,aDI,jV,bp,ah,aC,gq4,ar,aDx,hcz,az,e2,aJ,ag,e3,p1'];refine(HR p2 (by rw[gZ];omega) (tA _ (by rw[gZ];omega))).same ?_;rw[uU 4 nx (by have:nx<=2147483647:=Bd;omega)];have ahF:(vr.take 480).length<=480:=Ws
  have YE:((aj (ix (.dR nx (vr.take 480)))).drop (4*1)).take ((484-4)*1)=aj (vr.take 480++List.replicate (480-(vr.take 480).length) 0):=by
   unfold ix;rw[bF,aFZ (by rw[bJ,gZ]),bF,aFm,aDA (by rw[bJ];omega),bF]
   congr 1
   unfold aj;rw[<-aFc,List.take_replicate,aEt]
   congr 2;omega
  obtain⟨v19,p3,_⟩:=(lu [] rq).both (n:=512) pX (by rw[M7]) (l:=4) (h:=484) pX pX s4;have p3':aN 1 (.slice b 0 512 512 1) (some (.int .i64 4)) (some (.int .i64 484)) s4=.ok v19 s4:=p3;rw[p3',af];refine sC (hS st.nx G' page pr' vr s nx YW Ab hC2 s4 v19 k4 λX hX=>?_) ?_
  .obtain⟨avL,q3,q4⟩:=(lu X hX).both (n:=512) pX (by rw[M7]) (l:=4) (h:=484) pX pX s4;rw[p3]at q3;cases q3;rw[YE]at q4;exact q4
  .rintro _ s6 ⟨rfl,G2,xW⟩;have e4:ai .neq (some .int) true (I 0) (.int .i64 0) s6=.ok (.bool false) s6:=rfl;rw[e4,af,ag,aDv wI,gT i pX,af];exact next (fu-1) _ _ pX ⟨G2,i+1,nx,pr',_,pX,by simp at hpr;omega,rfl,xW⟩
 .rw[aDr hc,aDv wI];have:pr=[]:=aDP.1 pX;subst this;obtain⟨rfl,rfl⟩:=hC;have e5:ai .neq (some .int) true (I ((0:Nat):Int)) (.int .i64 0) s=.ok (.bool false) s:=rfl;rw[e5,af,ag,aDv wI];exact⟨adu,st.nx,G',aDt _,YW⟩
end
end
section
variable {τ:Nat} {π:PI} {st st':St} {G:GM}
def Tg.vV (h:Tg τ π st G){X:List Nat}(hk:Kp X st st')(hx:∀b∈X,b∉π.all/\b≠τ):Tg τ π st' G:=by
 obtain⟨ty,g,hg⟩:=h.get;exact⟨h.pg.keep hk λb hb hh=>(hx b hh).1 hb,aDM h.lt hk.nx,h.not,⟨ty,g,(hk.keep τ h.lt λhh=>(hx τ hh).2 rfl).trans hg⟩,hk.fresh h.fr⟩
structure Z1 (τ:Nat)(π:PI)(st:St)(G:GM)(c:dh)(bx:Nat)(akm:List UInt8)(q:Nat)(ps:List Nat)(page:Nat)(v:List UInt8)(s:St)(x:CV)(F:List Nat)(taken pad:List UInt8):Prop where
 tg:Tg τ π s G
 chain:oV G ps page v
 box:s.m.g q=some (.cells (aZ c) 109 false)
 lt:q<s.nx
 ne:q≠bx
 gbx:s.m.g bx=some (.cells [x] 93 false)
 bl:bx<s.nx
 own:Own s x 1 5 (aj (taken++pad)) F
 F:∀b∈F,bx<b/\b<s.nx/\b≠q
 tot:akm=taken++v
 akS:v≠[]->pad=[]
 awi:pad.length<=480
 kp:Kp [] st s
def EG (h:Tg τ π st G){c:dh}{v:List UInt8}{ps:List Nat}(hc:c.ok true)(hv:Cw G c v ps):R 53 [.ptr τ 0,.agg (aZ c)] st λx st'=>x=.tuple [.str v,I 0]/\Kp [] st st':=by
 refine bN ?_;rw[w53];rw[bW,aV];refine⟨rfl,?_⟩;have k1:Kp [] st (St.new st (.cells (aZ c) 109 false)):=(Kp.refl [] st).new _;have g1:(St.new st (.cells (aZ c) 109 false)).m.g st.nx=some (.cells (aZ c) 109 false):=aw _ _;have n1:(St.new st (.cells (aZ c) 109 false)).nx=st.nx+1:=rfl;generalize St.new st (.cells (aZ c) 109 false)=s1 at*
 have GB:∀o x,(aZ c)[o]?=some x->∀s,s.m.g st.nx=some (.cells (aZ c) 109 false)->∀K:CV->Prop,fl o (.ptr st.nx 0) s K=K x:=by
  intro o x hx s hs K;simp only[fl,ah,af,aC,hs,ar,aDx,hx,az]
 rw[GB 2 (I c.dR) rfl s1 g1,GB 1 (.str c.value) rfl s1 g1];rcases hv with⟨h0,rfl,rfl⟩|⟨h0,hsz,Eu,HG,hC⟩
 .have e1:ai .eql (some .int) true (I c.dR) (.int .i64 0) s1=.ok (.bool true) s1:=by rw[h0];rfl
  rw[e1,af,ag,aDy rfl];exact⟨rfl,k1⟩
 .have e1:ai .eql (some .int) true (I c.dR) (.int .i64 0) s1=.ok (.bool false) s1:=by rw[ay,cz,aDr pX]
  rw[e1,af,ag,aDv wI,cE,aT];have k2:Kp [] s1 (St.new s1 (.cells [.ae] 93 false)):=(Kp.refl [] s1).new _;have g2:(St.new s1 (.cells [.ae] 93 false)).m.g s1.nx=some (.cells [.ae] 93 false):=aw _ _;have n2:(St.new s1 (.cells [.ae] 93 false)).nx=s1.nx+1:=rfl;generalize St.new s1 (.cells [.ae] 93 false)=s2 at*;have tk:=(k2.keep st.nx pX rq).trans g1;have kW:=k1.trans k2 rq;have t2:=h.still kW;rw[aR (n:=4) tk rfl,af,mB,af];refine(J7 (st:=s2) (τ:=τ) (π:=π) (c:=c) (G:=G) (ps:=ps) (v:=v) (λq G' ps page v' s=>G'=G/\∃x F taken pad,Z1 τ π st G c s1.nx v q ps page v' s x F taken pad/\st.nx<q/\s.m.g st.nx=some (.cells (aZ c) 109 false)) ?_ ?_ ?_ ?_ ?_).mono ?_
  .rintro q G' ps page v' s ⟨rfl,x,F,taken,pad,hI,_⟩;exact⟨hI.tg,hI.chain,hI.box,hI.lt⟩
  .rintro q G' p px v' s nx ⟨rfl,x,F,taken,pad,hI,hq,hst⟩ Ab hC2 s' b hk lu;have amG:v'≠[]:=by obtain⟨_,h,_⟩:=hI.chain;exact h
   have amM:=hI.akS amG;subst amM;have hns:=hk.nx;rw[dM];simp only[aDV,aEp];refine bN ?_;rw[akd];have gbx:=(hk.keep _ hI.bl rq).trans hI.gbx;have OM:=hI.own.keep hk λb hb=>⟨(hI.F b hb).2.1,rq⟩;obtain⟨m,q1,q2⟩:=(lu [] rq).src [(.int .u8 0)]
   have GA:(v'.take 480++List.replicate (480-(v'.take 480).length) 0).length=480:=by
    have:(v'.take 480).length<=480:=Ws
    rw[aDw,aEo];omega
   have hm:m=480:=by rw[bJ,GA]at q1;omega
   subst hm;have htl:taken.length<=8192:=by have:=congrArg List.length hI.tot;rw[aDw]at this;omega
   obtain⟨x',Xi,F',a1,a2,a3,a4⟩:=OM.append (n:=480) (bytes:=1) (T:=aj (v'.take 480++List.replicate (480-(v'.take 480).length) 0)) pX (by rw[bJ,GA]) (bC _) (λb hb=>by have:=(hI.F b hb).2.1;omega) (by rw[bJ,bJ,GA,aDw];simp;omega);have aoI:s1.nx∉F:=λh=>by have:=(hI.F _ h).1;omega
   have apQ:=(a3.keep _ (by have:=hI.bl;omega) aoI).trans gbx;obtain⟨o1,o2⟩:=a2.ck;have kq:bo [x] 0 [x']=[x']:=rfl;simp only[aC,gbx,ar,aDo,az,q2,a1,aT,aF,apQ,aS,o2,kq];refine⟨⟨rfl,aap,rq⟩,adu,G',rfl,x',F',taken++v'.take 480,List.replicate (480-(v'.take 480).length) 0,?_,hq,?_⟩
   .have nz:∀b∈F',(b∈F\/s'.nx<=b)/\b<Xi.nx:=λb hb=>⟨(a4 b hb).1.imp id λh=>pX,(a4 b hb).2⟩;have ayi:=a3.nx;have YO:=(hI.kp.trans hk rq).trans a3 λb hb=>.inr (by have:=(hI.F b hb).1;omega);have fk:∀b,st.nx<=b->b∉π.all/\b≠τ:=λb hb=>⟨λhh=>aaH,λe=>WQ⟩;have eS:Kp [s1.nx] Xi (St.set Xi s1.nx (.cells [x'] 93 false)):=(Kp.refl _ Xi).set _ (.inl rq) (by have:=hI.bl;omega);refine⟨?_,hC2,?_,by have:=hI.lt;simp;omega,hI.ne,aq _ _ _,by have:=hI.bl;simp;omega,?_,λb hb=>?_,?_,?_,?_,?_⟩
    .exact(((hI.tg.still hk).vV a3 λb hb=>fk b (by have:=(hI.F b hb).1;omega)).vV eS λb hb=>fk b (by simp at hb;omega))
    .rw[al _ _ _ _ hI.ne,a3.keep q (by have:=hI.lt;omega) (λh=>(hI.F q h).2.2 rfl),hk.keep q hI.lt rq];exact hI.box
    .have e:aj (taken++v'.take 480++List.replicate (480-(v'.take 480).length) 0)=aj (taken++[])++aj (v'.take 480++List.replicate (480-(v'.take 480).length) 0):=by
      rw[<-bF];simp
     rw[e]
     exact a2.mono λb hb=>al _ _ _ _ λe=>by
      rcases(nz b hb).1 with h|h
      .have:=(hI.F b h).1;omega
      .have:=hI.bl;omega
    .refine⟨?_,(nz b hb).2,?_⟩
     .rcases(nz b hb).1 with h|h
      .exact(hI.F b h).1
      .have:=hI.bl;omega
     .rcases(nz b hb).1 with h|h
      .exact(hI.F b h).2.2
      .have:=hI.lt;omega
    .rw[aDY,aEd];exact hI.tot
    .intro gq
     have:480<v'.length:=by
      rcases aEG 480 v'.length with h|h
      .exact h
      .exact absurd (aEa h) gq
     rw[aDF,aEi pX];rfl
    .rw[aEo];omega
    .exact YO.set _ (.inr pX) (by have:=hI.bl;omega)
   .have h3:st.nx<s.nx:=by have:=hI.bl;omega
    rw[al _ _ _ _ pX,a3.keep st.nx pX (λh=>by have:=(hI.F _ h).1;omega),hk.keep st.nx h3 rq];exact hst
  .intro s3 q k3 hq1 IX hq3;refine⟨rfl,.ae,[],[],[],⟨t2.still k3,hC,hq3,IX,pX,(k3.keep _ pX rq).trans g2,by have:=k3.nx;omega,.inl ⟨rfl,rfl,rfl⟩,rq,rq,λ_=>rfl,rq,kW.trans k3 rq⟩,pX,(k3.keep _ pX rq).trans tk⟩
  .rw[hC.len,hsz];unfold dQ;rw[aDv pX]
  .omega
  .rintro _ s3 ⟨rfl,q,G',hq,rfl,x,F,taken,pad,hI,IX,hst⟩;have Tq:=hI.tot;rw[aEs]at Tq;have lu:Sl s3 [] x 1 (aj (taken++pad)):=hI.own.sl λb hb=>⟨rq,(hI.F b hb).2.1⟩;have e2:ai .neq (some .int) true (I 0) (.int .i64 0) s3=.ok (.bool false) s3:=rfl;have hlen:=lu.len (taken++pad).length rq pX s3;have e3:ai .lss none false (I (taken++pad).length) (I c.size) s3=.ok (.bool false) s3:=by rw[dq,aDr (by rw[hsz,Tq,aDw];omega)]
   obtain⟨v',p1,p2⟩:=lu.hi (n:=(taken++pad).length) pX rq (h:=c.size) (by rw[hsz,Tq,aDw];omega) s3
   have zP:(aj (taken++pad)).take (c.size*1)=aj v:=by
    rw[bF,aEQ,hsz,Tq,aEP rq]
   rw[zP]at p2
   have aof:∀K:CV->Prop,jV (some true) 3 (.ptr st.nx 0) s3 K=K (I c.size):=λK=>by
    simp only[jV,bp];exact GB 3 (I c.size) rfl s3 hst K
   simp only[e2,af,aL,aDp,aDE,aDI,bp,aC,hI.gbx,ar,aDo,az,hlen,aof,e3,aJ,ag,GB 3 (I c.size) rfl s3 hst,p1,p2.str];exact⟨adu,hI.kp⟩
end
section
variable {ps:List Nat}{n:Nat}{d:List UInt8}{g:Bool}
def iI (G:GM)(ps:List Nat):GM:=ps.foldl GM.drop G
structure Wm (G:GM)(ps:List Nat):Prop where
 ok:uX (iI G ps)
 bS:∀q,(iI G ps).bS q↔G.bS q/\q∉ps
 free:(iI G ps).cP=G.cP+ps.length
 cont:∀q,(iI G ps).cont q=G.cont q
 root:(iI G ps).root=G.root
 aE:(iI G ps).aE=G.aE
def Wc {G:GM}(h:uX G)(hn:ps.Nodup)(hu:∀p∈ps,G.bS p):Wm G ps:=by
 induction ps generalizing G with
 |nil=>exact⟨h,λq=>by simp[iI],rfl,λ_=>rfl,rfl,rfl⟩
 |cons p ps ih=>
  rw[aDG]at hn;have hd:=tn h (hu p rq);have:=ih hd.ok hn.2 λq hq=>(hd.bS q).2 ⟨hu q WD,λe=>hn.1 (e▸hq)⟩;have e:iI G (p::ps)=iI (G.drop p) ps:=rfl;refine⟨by rw[e];exact this.ok,λq=>?_,?_,λq=>by rw[e,this.cont];rfl,by rw[e,this.root];rfl,by rw[e,this.aE];rfl⟩
  .rw[e,this.bS,hd.bS];simp only[aDs,aEM];constructor
   .rintro⟨⟨a,b⟩,c⟩;exact⟨a,b,c⟩
   .rintro⟨a,b,c⟩;exact⟨⟨a,b⟩,c⟩
  .rw[e,this.free,hd.free,aDT];omega
def GU (G:GM)(ps:List Nat)(p:Nat):iI G (ps++[p])=(iI G ps).drop p:=by unfold iI;rw[aGe];rfl
section
variable {τ:Nat} {π:PI} {st st':St} {G:GM}
def Ck (h:Tg τ π st G){c:dh}{v:List UInt8}(hc:c.ok true)(hv:Cw G c v ps)(je:ps.Nodup):R 46 [.ptr τ 0,.agg (aZ c)] st λx st'=>x=I 0/\Kp π.W st st'/\Tg τ π st' (iI G ps):=by
 refine bN ?_;rw[w46];rw[bW,EW];refine⟨rfl,?_⟩;have k1:Kp [] st (St.new st (.cells [.ptr τ 0] 27 false)):=(Kp.refl [] st).new _;have g1:(St.new st (.cells [.ptr τ 0] 27 false)).m.g st.nx=some (.cells [.ptr τ 0] 27 false):=aw _ _;have n1:(St.new st (.cells [.ptr τ 0] 27 false)).nx=st.nx+1:=rfl;generalize St.new st (.cells [.ptr τ 0] 27 false)=s1 at*;rw[bW,aV];refine⟨rfl,?_⟩;have k2:Kp [] s1 (St.new s1 (.cells (aZ c) 109 false)):=(Kp.refl [] s1).new _;have g2:(St.new s1 (.cells (aZ c) 109 false)).m.g s1.nx=some (.cells (aZ c) 109 false):=aw _ _;have n2:(St.new s1 (.cells (aZ c) 109 false)).nx=s1.nx+1:=rfl;generalize St.new s1 (.cells (aZ c) 109 false)=s2 at*;have tk:=(k2.keep st.nx pX rq).trans g1;have kW:=k1.trans k2 rq;have t2:=h.still kW;have qC:(aZ c)[2]?=some (I c.dR):=rfl;simp only[fl,ah,af,aC,g2,ar,aDx,qC,az];rcases hv with⟨h0,rfl,rfl⟩|⟨h0,hsz,Eu,HG,hC⟩
 .have e1:ai .eql (some .int) true (I c.dR) (.int .i64 0) s2=.ok (.bool true) s2:=by rw[h0];rfl
  rw[e1,af,ag,aDy rfl];exact⟨adu,kW.mono rq,t2⟩
 .have e1:ai .eql (some .int) true (I c.dR) (.int .i64 0) s2=.ok (.bool false) s2:=by rw[ay,cz,aDr pX]
  simp only[e1,af,ag,aDp,aDE,tk,ar,aDo,az];rw[aR (n:=4) g2 rfl,af,mB,af];have qD:=h.RV;have M4:st.nx∉π.W:=λhh=>by have:=qD _ hh;omega
  refine(J7 (st:=s2) (τ:=τ) (π:=π) (c:=c) (G:=G) (ps:=ps) (v:=v) (λq G' pr page v' s=>∃done,G'=iI G done/\ps=done++pr/\Tg τ π s G'/\oV G' pr page v'/\s.m.g q=some (.cells (aZ c) 109 false)/\q<s.nx/\st.nx<=q/\s.m.g st.nx=some (.cells [.ptr τ 0] 27 false)/\Kp π.W st s) ?_ ?_ ?_ ?_ ?_).mono ?_
  .rintro q G' pr page v' s ⟨done,_,_,a,b,c,d,_⟩;exact⟨a,b,c,d⟩
  .rintro q G' p pr v' s nx ⟨done,rfl,e2,a1,a2,a3,a4,a5,a6,a7⟩ Ab hC2 s' b hk lu;rw[dM];simp only[aDV,aEp];refine bN ?_;rw[w94]
   have hst:st.nx<s.nx:=by
    have:=a7.nx;rcases aEG st.nx s.nx with h1|h1
    .exact h1
    .omega
   have g6:=(hk.keep st.nx hst rq).trans a6;have t':=a1.still hk;rw[aC,g6,ar,aDo,az];refine t'.get' ?_;have hup:(iI G done).bS p:=by obtain⟨_,_,hu,_⟩:=a2;exact hu
   refine(Df t'.pg hup).mono ?_;rintro _ Xi ⟨rfl,k'',p''⟩;have IS:=hk.nx;have hnW:∀x,st.nx<=x->x∉π.W:=λx hx hh=>by have:=qD x hh;omega
   refine⟨rfl,_,done++[p],(GU _ _ _).symm,by rw[e2];simp,t'.of k'' p'',?_,(k''.keep q pX (hnW q a5)).trans ((hk.keep q a4 rq).trans a3),by have:=k''.nx;omega,a5,(k''.keep st.nx pX M4).trans g6,(a7.trans hk rq).trans k'' adt⟩
   have RD:p∉pr:=by
    rw[e2]at je;have:=(aEn.1 je).2.1;exact(aDG.1 this).1
   exact hC2.kept λx hx=>⟨λhu=>((tn a1.pg.V5 hup).bS x).2 ⟨hu,λe=>RD (e▸hx)⟩,rfl⟩
  .intro s3 q k3 hq1 IX hq3;refine⟨[],rfl,rfl,t2.still k3,hC,hq3,IX,pX,(k3.keep _ pX rq).trans tk,(kW.mono rq).trans k3 rq⟩
  .rw[hC.len,hsz];unfold dQ;rw[aDv pX]
  .omega
  .rintro _ s3 ⟨rfl,q,G',_,done,rfl,e2,a1,_,_,_,_,_,a7⟩;rw[aEs]at e2;subst e2;exact⟨rfl,a7,a1⟩
def FB (hn:n<=100000)(s:St):qT 5 1 [.int .u8 0] (I n) (I n) s=.ok (.slice s.nx 0 n n 0) (St.new s (.cells (aj (List.replicate n 0)) 5 false)):=by
 have e:qT 5 1 [.int .u8 0] (I n) (I n) s=bz (Bool.and (Nat.ble n n) (Bool.and (Nat.ble (Nat.mul 1 n) 281474976710656) (Nat.ble n 9223372036854775807)))
  (.ok (.slice s.nx 0 n n 0) ⟨s.m.put s.nx (some (.cells (cJ n [.int .u8 0]) 5 false)),s.nx+1⟩) .bad:=rfl
 have e1:Nat.mul 1 n=n:=aFy n;rw[e,Nl,aO,aDy (by simp only[aDK,aDW,e1];omega)];rfl
def FD {b off cap:Nat}{L:List CV}{t:TypeId}{s:St}(hb:s.m.g b=some (.cells L t g))(hn:d.length<=n)(hl:off+d.length<=L.length):
 ∃s',gw true 1 (.slice b off n cap 0) (.str d) s=.ok (I d.length) s'/\s'.nx=s.nx/\s'.m.g b=some (.cells (bo L off (aj d)) t g)/\∀q,q≠b->s'.m.g q=s.m.g q:=by
 have e:gw true 1 (.slice b off n cap 0) (.str d) s=(match cellsOf true 1 (min d.length n) (.str d) s with
  |some t=>bz (Nat.beq (min d.length n) 0) (yj .i64 s 0)
   (bz (Bool.and (aU t) (Bool.or (Nat.beq 0 0) (Nat.ble 1 cap)))
    (match s.m.g b with
    |some (.cells l ty g)=>Option.rec (Option.rec .bad (λs'=>yj .i64 ⟨s.m.put b (some (.cells s' ty g)),s.nx⟩ (min d.length n)) (Bj l off t (off+cap*0))) (λs'=>yj .i64 ⟨s.m.put b (some (.cells s' ty g)),s.nx⟩ (min d.length n)) (dU l off t)
    |_=>.bad) .bad)
  |none=>.bad):=rfl
 have ec:cellsOf true 1 d.length (.str d) s=some (aj d):=by
  have:cellsOf true 1 d.length (.str d) s=if d.length<=d.length then some ((d.take d.length).map bP)else none:=rfl
  rw[this,aDy (aDt _),List.take_length];rfl
 rw[e,aEi hn,ec];dsimp only
 by_cases h0:d.length=0
 .have:=aDP.1 h0;subst this;refine⟨s,rfl,rfl,?_,λ_ _=>rfl⟩;rw[hb];have:bo L off (aj [])=L:=zC L off;rw[this]
 .have Jd:Nat.beq d.length 0=false:=by cases h:Nat.beq d.length 0 with|false=>rfl|true=>rw[aDZ]at h;omega
  have e3:dU L off (aj d)=some (bo L off (aj d)):=by unfold dU;rw[aDy (by rw[bJ];exact hl)];rfl
  rw[Jd,bC,hb];dsimp only;rw[e3];exact⟨St.set s b (.cells (bo L off (aj d)) t g),rfl,rfl,aq _ _ _,λq hq=>al _ _ _ _ hq⟩
def XH (h:Tg τ π st G){x1 x8 ql:Nat}{ty:TypeId}(hf:0<G.cP)(h1:st.m.g x1=some (.cells [.ptr τ 0] ty g))(h8:st.m.g x8=some (.cells [I ql] 3 false))(l1:x1<st.nx)(l8:x8<st.nx)(w1:x1∉π.all)(w8:x8∉π.all)(hτ:x8≠τ)(gq:x1≠x8)(hd:d.length<=480)(Bd:ql<=qt):
 R 96 [.str d,.ptr x1 0,.ptr x8 0] st λx st'=>x=I 0/\Kp (x8::π.W) st st'/\Tg τ π st' (G.alloc.put G.dV (.dR ql d))/\st'.m.g x8=some (.cells [I G.dV] 3 false):=by
 refine bN ?_;rw[w96];rw[aC,h1,ar,aDo,az];refine h.get' ?_;refine(JQ h.pg hf).mono ?_;rintro _ s1 ⟨rfl,k1,p1⟩;have t1:=h.of k1 p1;have ha:=tB h.pg.V5 hf;have nW1:x1∉π.W:=λhh=>w1 (PI.Cv hh);have nW8:x8∉π.W:=λhh=>w8 (PI.Cv hh);have g1:=(k1.keep x1 l1 nW1).trans h1;have g8:=(k1.keep x8 l8 nW8).trans h8;have n1:=k1.nx;have e1:ai .neq (some .int) true (I 0) (.int .i64 0) s1=.ok (.bool false) s1:=rfl;have emk:=FB (n:=512) pX s1;have aqw:qT 5 1 [.int .u8 0] (.int .i64 512) (.int .i64 512) s1=.ok (.slice s1.nx 0 512 512 0) (St.new s1 (.cells (aj (List.replicate 512 0)) 5 false)):=emk;simp only[aD,aG,af,e1,ag,aDp,aDE,aqw,aT,bA];have k2:Kp [] s1 (St.new s1 (.cells (aj (List.replicate 512 0)) 5 false)):=(Kp.refl [] s1).new _;have gb:(St.new s1 (.cells (aj (List.replicate 512 0)) 5 false)).m.g s1.nx=some (.cells (aj (List.replicate 512 0)) 5 false):=aw _ _;have n2:(St.new s1 (.cells (aj (List.replicate 512 0)) 5 false)).nx=s1.nx+1:=rfl;generalize St.new s1 (.cells (aj (List.replicate 512 0)) 5 false)=s2 at*;have g82:=(k2.keep x8 pX rq).trans g8;have tk:=(k2.keep x1 pX rq).trans g1;have t2:=t1.still k2;have esl:aN 1 (.slice s1.nx 0 512 512 0) none (some (.int .i64 4)) s2=.ok (.slice s1.nx 0 4 512 0) s2:=rfl;simp only[esl,af,aC,g82,ar,aDo,az];refine(Sj (b:=s1.nx) (off:=0) (len:=4) (cap:=512) (n:=ql) gb pX rq pX (by have:ql<=2147483647:=Bd;omega)).mono ?_;rintro _ s3 ⟨k3,n3,g3⟩
 have ri:bo (aj (List.replicate 512 0)) 0 (aj (be 4 ql))=aj (be 4 ql)++aj (List.replicate 508 0):=by
  unfold bo;rw[aFj,aDV,bJ,gZ]
  congr 1
 rw[ri]at g3;have aqv:aN 1 (.slice s1.nx 0 512 512 0) (some (.int .i64 4)) none s3=.ok (.slice s1.nx 4 508 508 0) s3:=rfl;have Kw:(aj (be 4 ql)++aj (List.replicate 508 0)).length=512:=by rw[aDw,bJ,bJ,gZ,aEo]
 obtain⟨s4,c1,c2,c3,c4⟩:=FD (b:=s1.nx) (off:=4) (n:=508) (cap:=508) (d:=d) g3 pX pX
 have ko:bo (aj (be 4 ql)++aj (List.replicate 508 0)) 4 (aj d)=aj (ix (.dR ql d)):=by
  have e:=pG (aj (be 4 ql)) (aj (List.replicate 508 0)) (aj d);rw[bJ,gZ]at e;rw[e];unfold ix;rw[bF,bF]
  congr 2
  unfold aj;rw[<-aEN,aFA,aEt]
 rw[ko]at c3;have g83:=(k3.keep x8 pX AI).trans g82;have g84:=(c4 x8 pX).trans g83;have Nd:=(c4 x1 pX).trans ((k3.keep x1 pX AI).trans tk);have DM:bo [I ql] 0 [I G.dV]=[I G.dV]:=rfl;simp only[aFw,aqv,af,c1,aT,aF,g84,aS,iL,DM];refine⟨⟨rfl,rfl,rq⟩,?_⟩;have k4:Kp [s1.nx] s3 s4:=⟨pX,λq hq hn=>c4 q (by simpa using hn),λiw q hq=>by rw[c4 q pX];exact iw q pX⟩;have k5:Kp [x8] s4 (St.set s4 x8 (.cells [I G.dV] 3 false)):=(Kp.refl _ s4).set _ (.inl rq) pX;have g85:(St.set s4 x8 (.cells [I G.dV] 3 false)).m.g x8=some (.cells [I G.dV] 3 false):=aq _ _ _;have g15:(St.set s4 x8 (.cells [I G.dV] 3 false)).m.g x1=some (.cells [.ptr τ 0] ty g):=(al _ _ _ _ gq).trans Nd;have gb5:(St.set s4 x8 (.cells [I G.dV] 3 false)).m.g s1.nx=some (.cells (aj (ix (.dR ql d))) 5 false):=(al _ _ _ _ pX).trans c3;have n5:(St.set s4 x8 (.cells [I G.dV] 3 false)).nx=s3.nx:=c2;generalize St.set s4 x8 (.cells [I G.dV] 3 false)=s5 at*;have fk:s1.nx∉π.all/\s1.nx≠τ:=⟨λhh=>abr,λe=>WQ⟩;have Rw:Kp [s1.nx,x8] s2 s5:=((k3.mono rq).trans k4 rq).trans k5 rq
 have t5:=t2.vV Rw λb hb=>by
  simp at hb;rcases hb with rfl|rfl
  .exact fk
  .exact⟨w8,hτ⟩
 simp only[g15,ar,aDo,az];refine t5.get' ?_;have anq:s1.nx<s5.nx:=pX
 have vX:=H0 (nx:=ql) (d:=d) pX
 have lu:Sl s5 [π.bn,π.bc] (.slice s1.nx 0 512 512 0) 1 (aj (ix (.dR ql d))):=.inr ⟨s1.nx,0,512,512,0,rfl,by rw[bJ,vX],⟨aDt _,.inl rfl⟩,.inr ⟨λhh=>by
  have:s1.nx∈π.W:=by unfold PI.W;simp at hh;rcases hh with h|h<;>simp[h]
  exact fk.1 (PI.Cv this),anq,_,_,_,gb5,by rw[bJ,vX];omega,by rw[aDX,aDA (by rw[bJ,vX];omega)]⟩⟩
 refine(JP t5.pg ((ha.bS _).2 (.inr rfl)) lu vX).mono ?_;rintro _ s6 ⟨rfl,k6,p6⟩;have py:Kp [s1.nx,x8] s1 s5:=(k2.mono rq).trans Rw rq;refine⟨rfl,?_,t5.of k6 p6,(k6.keep x8 pX nW8).trans g85⟩;refine((k1.mono (by intro q hq;simp[hq])).trans py (by intro q hq;simp at hq;rcases hq with rfl|rfl;right;omega;left;simp)).trans k6 (by intro q hq;simp[hq])
end
end
