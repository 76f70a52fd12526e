import Derived.Test.YtomffjeofpafnaaGreatDoorPagC
namespace Lim
open Go
noncomputable section
set_option linter.defProp false
set_option maxRecDepth 100000
structure Tg (τ:Nat)(π:PI)(st:St)(G:GM):Prop where
 pg:Pg π st G
 lt:τ<st.nx
 not:τ∉π.all
 get:∃ty g,st.m.g τ=some (.cells [.ptr π.p 0] ty g)
 fr:eH st
section
variable {τ:Nat} {π:PI} {st st':St} {G:GM}
def PI.Dk {b:Nat}(h:b∈π.W):b∈π.all:=by unfold PI.W at h;unfold PI.all;simp at h⊢;rcases h with h|h|h|h<;>simp[h]
def Tg.still (h:Tg τ π st G)(hk:Kp [] st st'):Tg τ π st' G:=by
 obtain⟨ty,g,hg⟩:=h.get;exact⟨h.pg.still hk,aFg h.lt hk.nx,h.not,⟨ty,g,(hk.keep τ h.lt uG).trans hg⟩,hk.fresh h.fr⟩
def Tg.of (h:Tg τ π st G){G':GM}(hk:Kp π.W st st')(hp:Pg π st' G'):Tg τ π st' G':=by
 obtain⟨ty,g,hg⟩:=h.get;exact⟨hp,aFg h.lt hk.nx,h.not,⟨ty,g,(hk.keep τ h.lt λhh=>h.not (PI.Dk hh)).trans hg⟩,hk.fresh h.fr⟩
def Tg.get' (h:Tg τ π st G){k:CV->Prop}(hk:k (.ptr π.p 0)):fB 0 (.ptr τ 0) st k:=by
 obtain⟨ty,g,hg⟩:=h.get;simp only[fB,bF,ah,af,aB,hg,aq,aER,aEL,ay];exact hk
def Tg.Oc (h:Tg τ π st G):∀b∈π.W,b<st.nx:=h.pg.Oc
def zD (h:Tg τ π st G){page:Nat}{n:bp}(hn:nh G page n):R 90 [.ptr τ 0,I page] st (xh n st):=by
 refine bP ?_;rw[w90];have k1:Kp [] st (St.new st (.cells [.bool false,.ae,.ae] 105 false)):=(Kp.refl [] st).new _;have g1:(St.new st (.cells [.bool false,.ae,.ae] 105 false)).m.g st.nx=some (.cells [.bool false,.ae,.ae] 105 false):=ao _ _;have n1:(St.new st (.cells [.bool false,.ae,.ae] 105 false)).nx=st.nx+1:=rfl;rw[cH,aS];generalize St.new st (.cells [.bool false,.ae,.ae] 105 false)=s1 at*;have h1:=h.still k1;refine h1.get' ?_;refine(P7 h1.pg hn.bW).mono ?_;rintro _ s2 ⟨k2,hl,b,rfl,g2,b1,b2⟩;rw[hn.cont]at hl g2;have n2:=k2.nx;have e1:ai .eql (some .int) true (I 0) (.int .i64 1) s2=.ok (.bool false) s2:=rfl;have e2:ai .neq (some .int) true (I 0) (.int .i64 0) s2=.ok (.bool false) s2:=rfl;simp only[aE,aN,af,cV,e1,ag,aEM,aFa,aL,aM,e2];have Ox:(aj (iM (.node n))).length=512:=adf
 have lq:Sl s2 [] (.slice b 0 512 512 1) 1 (aj (mG n++List.replicate (512-n.size) 0)):=.inr ⟨b,0,512,512,1,rfl,(show(aj (iM (.node n))).length=512*1 by rw[Ox]),⟨aEQ _,.inr rfl⟩,.inr ⟨uG,b2,_,_,_,g2,qE,by rw[aFr,aEX qE];rfl⟩⟩;have nK:=k1.trans k2 uG;have hs:=hn.size;refine(NP (nK.fresh h.fr) lq hn.ok qE).mono ?_;rintro _ s5 ⟨x,rfl,k5,hx⟩;have n5:=k5.nx;obtain⟨vc,vk,rfl,c1,c2⟩:=hx [st.nx] vR;obtain⟨x1,x2,x3⟩:=c1.bE;obtain⟨y1,y2,y3⟩:=c2.bE;simp only[aE,aN,af];refine mH rfl rfl abV ?_;have k7:Kp [] s5 (St.new s5 (.cells [.bool n.leaf,vc,vk] 105 false)):=(Kp.refl _ s5).new _;have g7:(St.new s5 (.cells [.bool n.leaf,vc,vk] 105 false)).m.g s5.nx=some (.cells [.bool n.leaf,vc,vk] 105 false):=ao _ _;have n7:(St.new s5 (.cells [.bool n.leaf,vc,vk] 105 false)).nx=s5.nx+1:=rfl;generalize St.new s5 (.cells [.bool n.leaf,vc,vk] 105 false)=s7 at*;have hk7:=(nK.trans k5 uG).trans k7 uG;have NF:=(k7.keep st.nx qE uG).trans ((k5.keep st.nx qE uG).trans ((k2.keep st.nx qE uG).trans g1));have e3:ai .eql (some .int) true (I 0) (.int .i64 0) s7=.ok (.bool true) s7:=rfl;have hlen:=(c1.mono (k7.mono uG)).len n.cells.length (bB _) qE s7
 have fin:us (aI 3 (.ptr s5.nx 0) s7) λeV=>upon (aR 3 (.ptr st.nx 0) eV s7) λ_ s9=>us (aI 3 (.ptr st.nx 0) s9) λeg=>xh n st (.tuple [eg,I 0]) s9:=by
  have kP:bD [.bool false,.ae,.ae] 0 [.bool n.leaf,vc,vk]=[.bool n.leaf,vc,vk]:=rfl;rw[aK (n:=3) g7 rfl,af,aJ,NF,aW,aT,kP];refine⟨⟨rfl,abV,uG⟩,?_⟩;rw[aK (n:=3) (ar _ _ _) rfl,af];have k9:Kp [st.nx] s7 (St.set s7 st.nx (.cells [.bool n.leaf,vc,vk] 105 false)):=(Kp.refl _ s7).set _ (.inl uG) qE;refine⟨_,rfl,hk7.set _ (.inr (aEQ _)) qE,λX hX=>?_⟩;have:=(hx (X++[st.nx]) (by intro b hb;simp at hb;rcases hb with h|h;have:=hX b h;omega;omega)).mono (k7.mono uG);exact(this.mono (k9.mono uG)).dW (by intro q hq;simp[hq])
 have jh:=hn.full;cases fL:n.leaf with
 |true=>
  rw[fL]at g7;simp only[e3,af,aG,aFm,gQ,bh,ah,aB,g7,aq,aER,aEL,ay,cU,aFh,aF,aEM,aFa,bS,ag];exact fin
 |false=>
  rw[fL]at g7 jh;have ij:n.cells≠[]:=by rcases jh with h|h;cases h;exact h
  have Ni:=aGX.2 ij;have e4:ai .eql (some .int) true (I n.cells.length) (.int .i64 0) s7=.ok (.bool false) s7:=Ft
  simp only[e3,af,aG,aFm,gQ,bh,ah,aB,g7,aq,aER,aEN,aEL,ay,cU,aFf,aF,hlen,e4,ag,aEM,aFa];exact fin
def OJ (m:Nat):cM m [.int .u8 0]=aj (List.replicate m 0):=by
 induction m with
 |zero=>rfl
 |succ m ih=>
  have:cM (m+1) [CV.int .u8 0]=.int .u8 0::cM m [.int .u8 0]:=by simp[cM,aGV]
  rw[this,ih];rfl
def lW (h:Tg τ π st G){page:Nat}{n:bp}{v:CV}(hu:G.bW page)(hv:IsNode st [] v n)(hn:n.ok)(hs:n.size<=512):R 100 [.ptr τ 0,I page,v] st λy st'=>y=I 0/\Kp π.W st st'/\Tg τ π st' (G.put page (.node n)):=by
 have zo:=hv;obtain⟨vc,vk,rfl,h1,h2⟩:=hv;refine bP ?_;rw[alq];rw[bV,aT];refine⟨rfl,?_⟩;have k1:Kp [] st (St.new st (.cells [.bool n.leaf,vc,vk] 105 false)):=(Kp.refl [] st).new _;have g1:(St.new st (.cells [.bool n.leaf,vc,vk] 105 false)).m.g st.nx=some (.cells [.bool n.leaf,vc,vk] 105 false):=ao _ _;generalize St.new st (.cells [.bool n.leaf,vc,vk] 105 false)=s1 at*;have t1:=h.still k1;rw[aK (n:=3) g1 rfl,af];refine(NM t1.fr (zo.mono k1) hn hs).mono ?_;rintro _ s2 ⟨x,rfl,m2⟩;have k2:=m2.kp;have t2:=t1.still k2;obtain⟨ty,g,hg⟩:=t2.get;have e1:ai .neq (some .int) true (I 0) (.int .i64 0) s2=.ok (.bool false) s2:=rfl;have e2:ai .sub none true (.int .i64 512) (I n.size) s2=.ok (I ((512-n.size:Nat):Int)) s2:=Bw
 have hlen:=(m2.sl [] uG).len n.size aef qE s2
 have arQ:de .zeros 1 [(.int .u8 0)] (I ((512-n.size:Nat):Int)) s2=some (512-n.size,aj (List.replicate (512-n.size) 0)):=by
  have:de .zeros 1 [(.int .u8 0)] (I ((512-n.size:Nat):Int)) s2=bH (Nat.ble (512-n.size) 1099511627776) (some (512-n.size,cM (512-n.size) [.int .u8 0])) none:=rfl;rw[this,aP,aEW abG,OJ]
 obtain⟨F,a1,a2,a3⟩:=m2;have uy:(aj (mG n)).length=n.size:=aef
 obtain⟨v',s3,F',b1,b2,b3,b4⟩:=a2.append (n:=512-n.size) (bytes:=1) (T:=aj (List.replicate (512-n.size) 0)) qE uG (bI _) (λb hb=>(a3 b hb).2) (by simp[bp.size]at*;omega);simp only[aE,aN,af,e1,ag,aEM,aFa,bG,bF,ah,aB,hg,aq,aER,aEL,ay,hlen,e2,arQ,b1,aS];have k3:=a1.trans b3 λq hq=>.inr (a3 q hq).1;have t3:=t1.still k3;obtain⟨ty3,g3,hg3⟩:=t3.get;rw[<-bL]at b2
 have lq:Sl s3 [π.bn,π.bc] v' 1 (aj (iM (.node n))):=b2.sl λb hb=>⟨λhh=>by
  have h9:=h.Oc b (by unfold PI.W;simp at hh;rcases hh with h|h<;>simp[h]);have:=k1.nx;have:=k2.nx;rcases(b4 b hb).1 with h|h
  .have:=(a3 b h).1;omega
  .omega,(b4 b hb).2⟩
 refine(KN t3.pg hu lq (I9 hs)).mono ?_;rintro _ s4 ⟨rfl,k4,p4⟩;simp only[hg3,aq,aEL,ay];have jN:=k1.trans k3 uG;have rQ:=(jN.mono uG).trans k4 ael;exact⟨⟨⟨aer,aer⟩,aer⟩,aer,aer,rQ,h.of rQ p4⟩
def ze (h:Tg τ π st G){n:bp}{v:CV}(hf:0<G.cF)(hv:IsNode st π.W v n)(hn:n.ok)(hs:n.size<=512):R 48 [.ptr τ 0,v] st λy st'=>y=.tuple [I G.dL,I 0]/\Kp π.W st st'/\Tg τ π st' (G.alloc.put G.dL (.node n)):=by
 have zo:=hv;obtain⟨vc,vk,rfl,h1,h2⟩:=hv;refine bP ?_;rw[w48];rw[bV,aT];refine⟨rfl,?_⟩;have k1:Kp [] st (St.new st (.cells [.bool n.leaf,vc,vk] 105 false)):=(Kp.refl [] st).new _;have g1:(St.new st (.cells [.bool n.leaf,vc,vk] 105 false)).m.g st.nx=some (.cells [.bool n.leaf,vc,vk] 105 false):=ao _ _;have n1:(St.new st (.cells [.bool n.leaf,vc,vk] 105 false)).nx=st.nx+1:=rfl;generalize St.new st (.cells [.bool n.leaf,vc,vk] 105 false)=s1 at*;have t1:=h.still k1;refine t1.get' ?_;refine(KO t1.pg hf).mono ?_;rintro _ s2 ⟨rfl,k2,p2⟩;have t2:=t1.of k2 p2;have hW:st.nx∉π.W:=λhh=>by have:=h.Oc _ hh;omega
 have g2:=(k2.keep st.nx qE hW).trans g1;have e1:ai .neq (some .int) true (I 0) (.int .i64 0) s2=.ok (.bool false) s2:=rfl;simp only[aE,aN,af,e1,ag,aEM,aFa];rw[aK (n:=3) g2 rfl,af];have ha:=ru h.pg.XZ hf;have hv2:IsNode s2 [] (.agg [.bool n.leaf,vc,vk]) n:=((zo.mono (k1.mono uG)).mono k2).dW uG;refine(lW t2 ((ha.bW _).2 (.inr rfl)) hv2 hn hs).mono ?_;rintro _ s3 ⟨rfl,k3,t3⟩;exact⟨rfl,((k1.mono uG).trans k2 ael).trans k3 ael,t3⟩
def Uh {v:CV}{n:bp}{key:cn}(h:IsNode st [] v n)(hn:n.ok)(hl:n.cells.length<=100000):R 92 [v,.str key] st λx st'=>x=I (jf n key)/\Kp [] st st':=by
 have h':=h;obtain⟨vc,vk,rfl,h1,h2⟩:=h;refine bP ?_;rw[w92];rw[bV,aT];refine⟨rfl,?_⟩;have k1:Kp [] st (St.new st (.cells [.bool n.leaf,vc,vk] 105 false)):=(Kp.refl [] st).new _;have g1:(St.new st (.cells [.bool n.leaf,vc,vk] 105 false)).m.g st.nx=some (.cells [.bool n.leaf,vc,vk] 105 false):=ao _ _;generalize St.new st (.cells [.bool n.leaf,vc,vk] 105 false)=s1 at*;rw[aK (n:=3) g1 rfl,af];refine(R7 (h'.mono k1) hl).mono ?_;rintro _ s2 ⟨rfl,k2⟩;have hle:n.find key<=n.cells.length:=aGZ;have wO:=Y4 hn.sorted key;have hk:=k1.trans k2 uG;simp only[aE,aN,af,ag];cases hc:n.cells[n.find key]? with
 |none=>
  rw[hc]at wO;have hb:n.hasB key=false:=by unfold bp.hasB;rw[hc]
  rw[hb,aET u7];exact⟨by rw[wO],hk⟩
 |some c=>
  rw[hc]at wO;dsimp only at wO;have hb:n.hasB key=decide (c.key=key):=by unfold bp.hasB;rw[hc]
  rw[hb]
  by_cases he:c.key=key
  .rw[aEW he]at wO;rw[aEV he,aEW rfl,gH _ qE,af];exact⟨by rw[wO],hk⟩
  .rw[aET he]at wO;rw[aEO he,aET u7];exact⟨by rw[wO],hk⟩
end
section
variable {X:List Nat}{rs:List (List CV)}{l:List cK}{Y:List Nat}{x:CV}
section
variable {τ:Nat} {π:PI} {st st':St} {G:GM}
def E7 (st:St)(X:List Nat)(row:List CV)(s:cK):Prop:=∃vc vk,row=[I s.page,I s.at_,.bool s.n.leaf,vc,vk]/\Sl st X vc 4 (bC s.n.cells)/\Sl st X vk 1 (cJ s.n.kids)
def dJ (st:St)(X:List Nat):List (List CV)->List cK->Prop
 |[],[]=>True
 |r::rs,s::l=>E7 st X r s/\dJ st X rs l
 |_,_=>False
def dJ.mono (h:dJ st X rs l)(hk:Kp X st st'):dJ st' X rs l:=by
 induction rs generalizing l with
 |nil=>cases l with|nil=>trivial|cons s l=>exact h
 |cons r rs ih=>cases l with
  |nil=>exact h
  |cons s l=>obtain⟨⟨vc,vk,a,b,c⟩,d⟩:=h;exact⟨⟨vc,vk,a,b.mono hk,c.mono hk⟩,ih d⟩
def dJ.dW (h:dJ st X rs l)(hy:∀q∈Y,q∈X\/st.nx<=q):dJ st Y rs l:=by
 induction rs generalizing l with
 |nil=>cases l with|nil=>trivial|cons s l=>exact h
 |cons r rs ih=>cases l with
  |nil=>exact h
  |cons s l=>obtain⟨⟨vc,vk,a,b,c⟩,d⟩:=h;exact⟨⟨vc,vk,a,b.dW hy,c.dW hy⟩,ih d⟩
def dJ.snoc {r:List CV}{s:cK}(h:dJ st X rs l)(hr:E7 st X r s):dJ st X (rs++[r]) (l++[s]):=by
 induction rs generalizing l with
 |nil=>cases l with|nil=>exact⟨hr,aer⟩|cons s l=>exact h.elim
 |cons r rs ih=>cases l with|nil=>exact h.elim|cons s l=>exact⟨h.1,ih h.2⟩
def dJ.len (h:dJ st X rs l):rs.length=l.length:=by
 induction rs generalizing l with
 |nil=>cases l with|nil=>rfl|cons s l=>exact h.elim
 |cons r rs ih=>cases l with|nil=>exact h.elim|cons s l=>simp[ih h.2]
def dJ.w (h:dJ st X rs l):∀x∈rs,x.length=5:=by
 induction rs generalizing l with
 |nil=>simp
 |cons r rs ih=>cases l with
  |nil=>exact h.elim
  |cons s l=>
   obtain⟨⟨vc,vk,rfl,b,c⟩,d⟩:=h;intro x hx;rcases aEP.1 hx with rfl|hx
   .rfl
   .exact ih d x hx
def dJ.at (h:dJ st X rs l){i:Nat}(hi:i<l.length):∃fk:i<rs.length,E7 st X rs[i] l[i]:=by
 induction rs generalizing l i with
 |nil=>cases l with
  |nil=>simp at hi
  |cons s l=>exact h.elim
 |cons r rs ih=>cases l with
  |nil=>exact h.elim
  |cons s l=>
   cases i with
   |zero=>exact⟨uG,h.1⟩
   |succ i=>obtain⟨a,b⟩:=ih h.2 (i:=i) O1;exact⟨vR,b⟩
def dJ.one (h:dJ st X rs l):bj rs.flatten=true:=by
 induction rs generalizing l with
 |nil=>rfl
 |cons r rs ih=>cases l with
  |nil=>exact h.elim
  |cons s l=>
   obtain⟨⟨vc,vk,rfl,b,c⟩,d⟩:=h;rw[aGq,rH,ih d];simp[b.bE.2.1,c.bE.2.1]
def eu (st:St)(X:List Nat)(x:CV)(l:List cK):Prop:=∃rows,Sl st X x 5 rows.flatten/\dJ st X rows l
def eu.mono (h:eu st X x l)(hk:Kp X st st'):eu st' X x l:=by
 obtain⟨rows,a,b⟩:=h;exact⟨rows,a.mono hk,b.mono hk⟩
def eu.dW (h:eu st X x l)(hy:∀q∈Y,q∈X\/st.nx<=q):eu st Y x l:=by
 obtain⟨rows,a,b⟩:=h;exact⟨rows,a.dW hy,b.dW hy⟩
def We (G:GM)(key:cn)(L:List bq)(st:St)(y:CV)(st':St):Prop:=
 Kp [] st st'/\∃x,y=.tuple [x,I 0]/\((G.root=0/\x=.ae)\/∃f rest,mm G key f rest L/\rest.length<=16/\∀X,(∀b∈X,b<st.nx)->eu st' X x (rest.reverse++[f]))
def zj (h:Tg τ π st G){L:List bq}(ht:fA G L)(key:cn):R 45 [.ptr τ 0,.str key] st (We G key L st):=by
 refine bP ?_;rw[w45];simp only[cV,aL,aM];refine h.get' ?_;refine(Js h.pg).same ?_
 by_cases h0:G.root=0
 ·
   refine bN (λfu vs s=>vs=[.ptr τ 0,.str key,.ae,I G.root]/\s=st) ?_ (n:=0) ⟨rfl,rfl⟩;rintro fu vs s k ⟨rfl,rfl⟩ next;have e1:ai .neq (some .int) true (I G.root) (.int .i64 0) s=.ok (.bool false) s:=by rw[h0];rfl
   simp only[aL,aM,e1,af,ag,aEM,aFa];exact⟨Kp.refl _ _,.ae,rfl,.inl ⟨h0,rfl⟩⟩
 .obtain⟨H,ps0,afu,ZE⟩:=ht.tree.resolve_left λh=>h0 h.1;have hH:=ZE.deep afu ht.ok
  refine bN (λfu vs s=>∃(l:List cK) (hh page:Nat) (lo:cn) (hi:Option cn) (Ll Lr Lm:List bq) (ps q:List Nat) (x:CV) (rows:List (List CV)) (F:List Nat),
   fu=hh/\vs=[.ptr τ 0,.str key,x,I page]/\Kp [] st s/\Ctx G hh l.reverse page lo hi Ll Lr ps/\Sub G hh page lo hi Lm q/\lp lo key/\En key hi/\(q++ps).Nodup/\Ll++(Lm++Lr)=L/\l.length+hh=H/\Own s x 5 107 rows.flatten F/\(∀b∈F,st.nx<=b/\b<s.nx)/\
   (∀X,(∀b∈X,b<st.nx\/b∈F)->dJ s X rows l)) ?_ (n:=H) ⟨[],H,G.root,[],none,[],[],L,[],ps0,.ae,[],[],rfl,rfl,Kp.refl _ _,⟨rfl,rfl,rfl,rfl,rfl,rfl⟩,ZE,KX _,aer,by simpa using afu,uG,uG,.inl ⟨rfl,rfl,rfl⟩,uG,λX hX=>trivial⟩
  rintro fu vs s k ⟨l,hh,page,lo,hi,Ll,Lr,Lm,ps,q,x,rows,F,rfl,rfl,hk,wQ,ur,uR,Iu,ja,hL,hlen,yS,hF,eU⟩ next;have JN:=ur;obtain⟨n,qn,hn,kD,rfl⟩:=ur;have Ni:=hn.bW.1;have e1:ai .neq (some .int) true (I page) (.int .i64 0) s=.ok (.bool true) s:=by rw[az,fh,aEO qE];rfl
  simp only[aL,aM,e1,af,ag,aFm];have ts:=h.still hk;have hns:=hk.nx;refine(zD ts hn).mono ?_;rintro _ s3 ⟨xn,rfl,k3,hxn⟩;have n3:=k3.nx;obtain⟨vc,vk,rfl,c1,c2⟩:=hxn [] uG;obtain⟨x1,x2,x3⟩:=c1.bE;obtain⟨y1,y2,y3⟩:=c2.bE;simp only[aE,aN,af];refine mH rfl rfl abV ?_;have k5:Kp [] s3 (St.new s3 (.cells [.bool n.leaf,vc,vk] 105 false)):=(Kp.refl _ s3).new _;have g5:(St.new s3 (.cells [.bool n.leaf,vc,vk] 105 false)).m.g s3.nx=some (.cells [.bool n.leaf,vc,vk] 105 false):=ao _ _;have n5:(St.new s3 (.cells [.bool n.leaf,vc,vk] 105 false)).nx=s3.nx+1:=rfl;generalize St.new s3 (.cells [.bool n.leaf,vc,vk] 105 false)=s5 at*;have Hg:=k3.trans k5 uG;have o5:=yS.keep Hg λb hb=>⟨(hF b hb).2,uG⟩;have XQ:=(eU [] uG);have vO:=XQ.len;have Xg:=fJ XQ.w;have sl5:Sl s5 [] x 5 rows.flatten:=o5.sl λb hb=>⟨uG,acR⟩;have e2:ai .neq (some .int) true (I 0) (.int .i64 0) s5=.ok (.bool false) s5:=rfl;have e3:ai .eql (some .int) true (I rows.length) (.int .i64 40) s5=.ok (.bool false) s5:=Ft
  have oO:n.cells.length<=512:=by
   have:=eC n.leaf n.cells;have:=hn.size;rw[ck]at this;omega
  simp only[e2,ag,aEM,aFa,sl5.len rows.length Xg qE s5,af,e3,fl,ah,aB,g5,aq,aER,aEL,ay];have EE:IsNode s5 [] (.agg [.bool n.leaf,vc,vk]) n:=⟨vc,vk,rfl,c1.mono k5,c2.mono k5⟩
  have push:∀(s6:St) (at_:Nat) (K:CV->St->Prop),Kp [] s5 s6->(∀v' s8 F',Own s8 v' 5 107 (rows++[[I page,I at_,.bool n.leaf,vc,vk]]).flatten F'->Kp [] st s8->s8.m.g s3.nx=some (.cells [.bool n.leaf,vc,vk] 105 false)->(∀b∈F',st.nx<=b/\b<s8.nx)->Sl s8 [] vk 1 (cJ n.kids)->
   (∀X,(∀b∈X,b<st.nx\/b∈F')->dJ s8 X (rows++[[I page,I at_,.bool n.leaf,vc,vk]]) (l++[⟨page,at_,n⟩]))->K v' s8)->
   us (aI 3 (.ptr s3.nx 0) s6) λeg=>us (bk [.int .i64 0,.int .i64 0,.bool false,.ae,.ae] [(0,1,I page),(1,1,I at_),(2,3,eg)] s6) λef=>upon (bM 107 1 (cM 1 [.int .i64 0,.int .i64 0,.bool false,.ae,.ae]) [(0,5,ef)] s6) λeF s7=>
    upon (bT 107 5 72 x (de .slice 5 [.int .i64 0,.int .i64 0,.bool false,.ae,.ae] eF s7) s7) K:=by
   intro s6 at_ K k6 hK;have n6:=k6.nx;have g6:=(k6.keep s3.nx qE uG).trans g5;have EG:=Hg.trans k6 uG;rw[aK (n:=3) g6 rfl,af]
   have nD:bk [.int .i64 0,.int .i64 0,.bool false,.ae,.ae] [(0,1,I page),(1,1,I at_),(2,3,.agg [.bool n.leaf,vc,vk])] s6=.ok (.agg [I page,I at_,.bool n.leaf,vc,vk]) s6:=by
    rw[dV];simp[cR,bD]
   rw[nD,af];have o6:=o5.keep k6 λb hb=>⟨acR,uG⟩;have azh:rows.length<=16:=qE
   refine V0 72 o6 qE (λb hb=>acR) rfl rfl rfl abV (by rw[Xg];omega) ?_;intro v' s8 F' a1 a2 a3
   have XT:∀b∈F',st.nx<=b/\b<s8.nx/\(b∈F\/s6.nx<=b):=λb hb=>by
    obtain⟨p1,p2⟩:=a3 b hb;refine⟨?_,p2,p1⟩;rcases p1 with h|h
    .exact(hF b h).1
    .omega
   have mr:=(hk.trans EG uG).trans a2 λb hb=>.inr (hF b hb).1;have aor:s3.nx∉F:=λhh=>by have:=(hF _ hh).2;omega
   have hxF:=hxn F (λb hb=>(hF b hb).2);obtain⟨_,_,e9,d1,d2⟩:=hxF;cases e9;have Z9:=k5.trans k6 uG;refine hK v' s8 F' (by simpa using a1) mr ((a2.keep s3.nx qE aor).trans g6) (λb hb=>⟨(XT b hb).1,(XT b hb).2.1⟩) (((d2.mono (Z9.mono uG)).mono a2).dW uG) ?_;intro X hX;refine dJ.snoc ?_ ⟨vc,vk,rfl,?_,?_⟩
   .have h1:=eU ((X.filter λb=>decide (b<st.nx))++F) (by intro b hb;simp at hb;rcases hb with h|h;exact .inl h.2;exact .inr h)
    have h2:dJ s (X++F) rows l:=h1.dW (by
     intro b hb;simp only[aEY,aGm,aGa]at hb⊢;rcases hb with hb|hb
     .rcases hX b hb with h|h
      .exact .inl (.inl ⟨hb,h⟩)
      .rcases(XT b h).2.2 with h2|h2
       .exact .inl (.inr h2)
       .right;have:=EG.nx;omega
     .exact .inl (.inr hb))
    exact((h2.mono (EG.mono uG)).mono (a2.mono λq hq=>.inl TN)).dW (by intro b hb;simp[hb])
   all_goals
    obtain⟨_,_,e9,d3,d4⟩:=hxn ((X.filter λb=>decide (b<s.nx))++F) (by intro b hb;simp at hb;rcases hb with h|h;exact h.2;exact(hF b h).2);cases e9
    have Ry:∀b∈X++F,b∈(X.filter λb=>decide (b<s.nx))++F\/s6.nx<=b:=by
     intro b hb;simp only[aEY,aGm,aGa]at hb⊢;rcases hb with hb|hb
     .rcases hX b hb with h|h
      .exact .inl (.inl ⟨hb,qE⟩)
      .rcases(XT b h).2.2 with h2|h2
       .exact .inl (.inr h2)
       .exact .inr h2
     .exact .inl (.inr hb)
   .exact(((d3.mono (Z9.mono uG)).dW Ry).mono (a2.mono λq hq=>.inl TN)).dW (by intro b hb;simp[hb])
   .exact(((d4.mono (Z9.mono uG)).dW Ry).mono (a2.mono λq hq=>.inl TN)).dW (by intro b hb;simp[hb])
  cases fu with
  |zero=>
   have fL:n.leaf=true:=kD.leaf;rw[fL]at push;rw[fL]at g5 EE;rw[fL,aEW rfl,aK (n:=3) g5 rfl,af];refine(R7 EE qE).mono ?_;rintro _ s6 ⟨rfl,k6⟩;simp only[aE,aN,af];refine push s6 (n.find key) _ k6 ?_;intro v' s8 F' a1 a2 a3 a4 a5 a6;refine⟨a2,v',rfl,.inr ⟨⟨page,n.find key,n⟩,l.reverse,⟨lo,hi,Ll,Lr,Lm,ps,qn,wQ,hn,kD,uR,Iu,by simpa using ja,hL,rfl⟩,by rw[List.length_reverse];omega,λX hX=>?_⟩⟩;rw[aGG];exact⟨_,a1.sl λb hb=>⟨λhh=>by have:=hX b hh;have:=(a4 b hb).1;omega,(a4 b hb).2⟩,a6 X λb hb=>.inl (hX b hb)⟩
  |succ hh=>
   have fL:n.leaf=false:=kD.leaf;obtain⟨yj,JG,yz,La,Lm2,Lb,p2,pm,d1,d2,d3,d4,d5,d6,d7⟩:=wQ.descend hn kD uR Iu;rw[fL]at push;rw[fL]at g5 EE;rw[fL,aET u7,aK (n:=3) g5 rfl,af];refine(Uh EE hn.ok qE).mono ?_;rintro _ s6 ⟨rfl,k6⟩;refine push s6 (jf n key) _ k6 ?_;intro v' s8 F' a1 a2 a3 a4 a5 a6;obtain⟨fk,oI⟩:=aFb.1 d1;simp only[a3,aq,aEN,aEL,ay];refine a5.idx (i:=jf n key) (by simpa using fk) _ ?_;have e4:(cJ n.kids)[jf n key]'(by simpa using fk)=I yj:=by simp[cJ,oI]
   have hp0:0<yj:=by obtain⟨_,_,Xq,_⟩:=d3;exact Xq.bW.1
   have e5:ai .eql (some .int) true (I yj) (.int .i64 0) s8=.ok (.bool false) s8:=Ft
   rw[e4,e5,af,ag,aET u7];refine next hh _ _ qE ⟨l++[⟨page,jf n key,n⟩],hh,yj,JG,yz,Ll++La,Lb++Lr,Lm2,p2,pm,v',_,F',rfl,rfl,a2,?_,d3,d4,d5,?_,?_,vR,a1,a4,a6⟩
   .rw[List.reverse_append];exact d2
   .exact d7.nodup_iff.2 (by simpa using ja)
   .rw[<-hL,d6];simp
end
end
section
variable {v:List UInt8}{n:Nat}{G:GM}{ps:List Nat}
section
variable {st st':St}
def IW {X:List Nat}{v:CV}{l:List UInt8}(h:Sl st X v 1 (aj l))(hl:l.length<=1000)(hb:∀i,oC (l.take i)<=4611686018427387904):R 141 [v] st λx st'=>x=I (oC l)/\st'=st:=by
 refine bP ?_;rw[akG];have hlen:=h.len l.length uG qE st;show us _ _;rw[hlen,af];show cZ _ _ _;simp only[aL,aM];refine bN (λfu vs s=>∃i,fu+i=l.length/\vs=[I (oC (l.take i)),v,I l.length,I i]/\s=st) ?_ (n:=l.length) ⟨0,rfl,rfl,rfl⟩;rintro fu vs s k ⟨i,hi,rfl,rfl⟩ next;simp only[aL,aM]
 by_cases hc:i<l.length
 .have a1:ai .lss none false (I i) (I l.length) s=.ok (.bool true) s:=by rw[az,c8,aEV qE]
  have Ix:=hb i;have CX:=hb (i+1);have BO:l.take (i+1)=l.take i++[l[i]]:=by rw[aFe hc]
  rw[BO,tq]at CX;have hlt:(l[i]).toNat<256:=(l[i]).toNat_lt
  have a2:ai .shl none true (I (oC (l.take i))) (.int .u64 8) s=.ok (I ((oC (l.take i)*2^8:Nat):Int)) s:=by
   have e:ai .shl none true (I (oC (l.take i))) (.int .u64 8) s=.ok (I (IntKind.i64.wrap ((oC (l.take i):Int)*2^8))) s:=rfl;rw[e,bz qE];simp
  have a3:cW (.toInt .i64) (bQ l[i]) s=.ok (I (l[i]).toNat) s:=FD _ qE _ _;have a4:ai .or none false (I ((oC (l.take i)*2^8:Nat):Int)) (I (l[i]).toNat) s=.ok (I ((oC (l.take i)*2^8+(l[i]).toNat:Nat):Int)) s:=CA _ _ _ qE qE _ _ _;have a5:ai .add none true (I i) (.int .i64 1) s=.ok (I ((i+1:Nat):Int)) s:=xt
  simp only[a1,af,ag,aFm,a2];refine h.idx Dx _ ?_;have hg:(aj l)[i]'(by simpa using hc)=bQ l[i]:=abK
  rw[hg,a3,af,a4,af,a5,af];exact next (fu-1) _ _ qE ⟨i+1,qE,by rw[BO,tq],rfl⟩
 .have a1:ai .lss none false (I i) (I l.length) s=.ok (.bool false) s:=by rw[az,c8,aEO qE]
  simp only[a1,af,ag,aEM,aFa];rw[aEX qE];exact⟨rfl,aer⟩
def Ub {b off len cap:Nat}{L:List CV}{t:TypeId}{g:Bool}(hb:st.m.g b=some (.cells L t g))(Hm:b<st.nx)(hL:off+len<=L.length)(hlen:len<=8)(hn:n<9223372036854775808):
 R 98 [.slice b off len cap 0,I n] st λx st'=>Kp [b] st st'/\st'.nx=st.nx/\st'.m.g b=some (.cells (bD L off (aj (be len n))) t g):=by
 refine bP ?_;rw[w98];simp only[cV,nY,af,aL,aM]
 refine bN (λfu vs s=>∃i,fu+i=len/\vs=[.slice b off len cap 0,I n,I len,I i]/\Kp [b] st s/\s.nx=st.nx/\s.m.g b=some (.cells (bD L (off+len-i) (aj (be i n))) t g)) ?_ (n:=len) ⟨0,rfl,rfl,Kp.refl _ _,rfl,by
  have:aj (be 0 n)=[]:=rfl;rw[this,Ak];exact hb⟩
 rintro fu vs s k ⟨i,hi,rfl,hk,JM,hg⟩ next;simp only[aL,aM]
 by_cases hc:i<len
 .have a1:ai .lss none false (I i) (I len) s=.ok (.bool true) s:=by rw[az,c8,aEV qE]
  have a2:ai .sub none true (I len) (.int .i64 1) s=.ok (I ((len-1:Nat):Int)) s:=Bw
  have a3:ai .sub none false (I ((len-1:Nat):Int)) (I i) s=.ok (I ((len-1-i:Nat):Int)) s:=Bw
  have a4:ai .mul none true (.int .i64 8) (I i) s=.ok (I ((8*i:Nat):Int)) s:=O3
  have a5:cc 1 (.slice b off len cap 0) (I ((len-1-i:Nat):Int)) s=.ok (.ptr b (off+(len-1-i)*1)) s:=fO qE (.inl rfl) s;have a6:∀s,ai .add none true (I i) (.int .i64 1) s=.ok (I ((i+1:Nat):Int)) s:=λs=>xt
  simp only[a1,af,ag,aFm,nY,a2,a3,a4,DK _ _ (show i<8 from qE),Mw,Ew,a5,aJ,hg,aW,a6];have e1:off+(len-1-i)*1=off+len-(i+1):=qE
  have e2:off+len-i=off+len-(i+1)+1:=qE
  have uy:=il i n
  have e3:bD (bD L (off+len-i) (aj (be i n))) (off+len-(i+1)) [bQ (UInt8.ofNat (n/256^i%256))]=bD L (off+len-(i+1)) (aj (be (i+1) n)):=by
   rw[e2,CB _ _ _ _ adh,zt];rfl
  have U8:(bQ (UInt8.ofNat (n/256^i%256))).cN=[bQ (UInt8.ofNat (n/256^i%256))]:=rfl;rw[e1,U8,e3];refine⟨⟨rfl,rfl,acC⟩,next (fu-1) _ _ qE ⟨i+1,qE,rfl,hk.set _ (.inl uG) qE,JM,ar _ _ _⟩⟩
 .have a1:ai .lss none false (I i) (I len) s=.ok (.bool false) s:=by rw[az,c8,aEO qE]
  simp only[a1,af,ag,aEM,aFa];have Ff:i=len:=qE
  subst Ff;rw[aFY]at hg;exact⟨hk,JM,hg⟩
end
def cq (n:Nat):Nat:=if n<=64 then 0 else (n+479)/480
def zk {st:St}(hn:n<=4000000000):R 44 [I n] st λv st'=>v=I (cq n)/\st'=st:=by
 refine bP ?_;rw[w44];have e1:ai .leq none true (I n) (.int .i64 64) st=.ok (.bool (decide (n<=64))) st:=IN
 have e2:ai .add none true (I n) (.int .i64 480) st=.ok (I ((n+480:Nat):Int)) st:=xt
 have e3:ai .sub none true (I ((n+480:Nat):Int)) (.int .i64 1) st=.ok (I ((n+479:Nat):Int)) st:=Bw
 have e4:ai .quo none true (I ((n+479:Nat):Int)) (.int .i64 480) st=.ok (I (((n+479)/480:Nat):Int)) st:=by
  have e0:ai .quo none true (I ((n+479:Nat):Int)) (.int .i64 480) st=.ok (I (IntKind.i64.wrap (Int.tdiv ((n+479:Nat):Int) 480))) st:=rfl;have e1:Int.tdiv ((n+479:Nat):Int) 480=(((n+479)/480:Nat):Int):=rfl;rw[e0,e1,bz qE]
 unfold cq;simp only[e1,af,ag,e2,e3,e4]
 by_cases h:n<=64
 .rw[aEV h,aEW rfl,aEW h];exact⟨rfl,aer⟩
 .rw[aEO h,aET u7,aET h];exact⟨rfl,aer⟩
def pC.len {page:Nat}(h:pC G ps page v):ps.length=(v.length+479)/480:=by
 induction ps generalizing page v with
 |nil=>obtain⟨_,rfl⟩:=h;rfl
 |cons p ps ih=>
  obtain⟨_,h1,_,next,_,_,h5⟩:=h;have:=ih h5;rw[aFn]at this;have:=aGX.2 h1;rw[aFp];omega
section
variable {τ:Nat} {π:PI} {st st':St}
def Le {f:CV}{c:dh}(Inv:Nat->GM->List Nat->Nat->List UInt8->St->Prop)
 (hT:∀q G ps page v s,Inv q G ps page v s->Tg τ π s G/\pC G ps page v/\s.m.g q=some (.cells (aU c) 109 false)/\q<s.nx)
 (hS:∀q G p ps v s next,Inv q G (p::ps) p v s->G.cont p=.dU next (v.take 480)->pC G ps next (v.drop 480)->∀s' b,Kp [] s s'->(∀X,(∀b∈X,b<s.nx)->Sl s' X b 1 (aj (v.take 480++List.replicate (480-(v.take 480).length) 0)))->fF R f [I p,b] s' λx YB=>x=I 0/\∃G',Inv q G' ps next (v.drop 480) YB)
    (h0:∀s1 q,Kp [] st s1->st.nx<=q->q<s1.nx->s1.m.g q=some (.cells (aU c) 109 false)->Inv q G ps c.dU v s1) (hl:ps.length=cq c.size) (hsz:c.size<=8192):
 R 93 [.ptr τ 0,.agg (aU c),f] st λx st'=>x=I 0/\∃q G',st.nx<=q/\Inv q G' [] 0 [] st':=by
 refine bP ?_;rw[w93];rw[bV,aT];refine⟨rfl,?_⟩;have k1:Kp [] st (St.new st (.cells (aU c) 109 false)):=(Kp.refl [] st).new _;have g1:(St.new st (.cells (aU c) 109 false)).m.g st.nx=some (.cells (aU c) 109 false):=ao _ _;have n1:(St.new st (.cells (aU c) 109 false)).nx=st.nx+1:=rfl;generalize St.new st (.cells (aU c) 109 false)=s1 at*;have i1:=h0 s1 st.nx k1 (aEQ _) qE g1
 have EM:∀o x,(aU c)[o]?=some x->∀s,s.m.g st.nx=some (.cells (aU c) 109 false)->∀K:CV->Prop,fl o (.ptr st.nx 0) s K=K x:=by
  intro o x hx s hs K;simp only[fl,ah,af,aB,hs,aq,aER,hx,ay]
 rw[EM 2 (I c.dU) rfl s1 g1,cV,EM 3 (I c.size) rfl s1 g1];refine(zk (n:=c.size) qE).same ?_;simp only[aL,aM]
 have agu:ps.length<=1000000:=by
  rw[hl];unfold cq;split<;>omega
 rw[<-hl];refine bN (λfu vs s=>∃(G':GM) (i page:Nat) (pr:List Nat) (vr:List UInt8),fu+i=ps.length/\pr.length=fu/\vs=[.ptr τ 0,f,.ptr st.nx 0,I page,I ps.length,I i]/\Inv st.nx G' pr page vr s) ?_ (n:=ps.length) ⟨G,0,c.dU,ps,v,rfl,rfl,rfl,i1⟩;rintro fu vs s k ⟨G',i,page,pr,vr,hi,hpr,rfl,aac⟩ next;obtain⟨hT1,hC,hg,hlt⟩:=hT _ _ _ _ _ _ aac;simp only[aL,aM,dC,af,ag]
 by_cases hc:i<ps.length
 .rw[aEV hc,aEW rfl]
  obtain⟨p,pr',rfl⟩:∃p pr',pr=p::pr':=by
   cases pr with
   |nil=>simp at hpr;omega
   |cons p pr'=>exact⟨p,pr',rfl⟩
  obtain⟨rfl,ij,hu,nx,AQ,BT,hC2⟩:=hC;refine hT1.get' ?_;refine(P7 hT1.pg hu).mono ?_;rintro _ s4 ⟨k4,wM,b,rfl,g4,b1,b2⟩;rw[AQ]at wM g4;have n4:=k4.nx;have gq4:=(k4.keep st.nx hlt uG).trans hg;have e1:ai .eql (some .int) true (I 0) (.int .i64 1) s4=.ok (.bool false) s4:=rfl;have e2:ai .gtr none true (I c.size) (.int .i64 8192) s4=.ok (.bool false) s4:=by rw[az,dx,aEO qE]
  have e3:ai .neq (some .int) true (I 0) (.int .i64 0) s4=.ok (.bool false) s4:=rfl;have hcz:(aU c)[3]?=some (I c.size):=rfl;have Ox:(aj (iM (.dU nx (vr.take 480)))).length=512:=by simpa using wM
  have lq:∀X,(∀b∈X,b<s.nx)->Sl s4 X (.slice b 0 512 512 1) 1 (aj (iM (.dU nx (vr.take 480)))):=λX hX=>.inr ⟨b,0,512,512,1,rfl,by rw[Ox],⟨aEQ _,.inr rfl⟩,.inr ⟨λh=>by have:=hX b h;omega,b2,_,_,_,g4,qE,O4⟩⟩;obtain⟨TU,p1,p2⟩:=(lq [] uG).hi (n:=512) qE (by rw[Ox]) (h:=4) qE s4
  have BO:(aj (iM (.dU nx (vr.take 480)))).take (4*1)=aj (be 4 nx):=by
   unfold iM;rw[bL,aGj (by rw[bJ,il])]
  rw[BO]at p2;have p1':aQ 1 (.slice b 0 512 512 1) none (some (.int .i64 4)) s4=.ok TU s4:=p1;simp only[aE,aN,af,e1,aG,aEM,aFa,aFf,gQ,bh,ah,aB,gq4,aq,aER,hcz,ay,e2,aF,ag,e3,p1'];refine(IW p2 (by rw[il];omega) (ub _ (by rw[il];omega))).same ?_;rw[vL 4 nx (by have:nx<=2147483647:=BT;omega)];have aiT:(vr.take 480).length<=480:=O0
  have ZW:((aj (iM (.dU nx (vr.take 480)))).drop (4*1)).take ((484-4)*1)=aj (vr.take 480++List.replicate (480-(vr.take 480).length) 0):=by
   unfold iM;rw[bL,aHx (by rw[bJ,il]),bL,aGH,aEX (by rw[bJ];omega),bL]
   congr 1
   unfold aj;rw[<-aGx,List.take_replicate,aFK]
   congr 2;omega
  obtain⟨v19,p3,_⟩:=(lq [] uG).both (n:=512) qE (by rw[Ox]) (l:=4) (h:=484) qE qE s4;have p3':aQ 1 (.slice b 0 512 512 1) (some (.int .i64 4)) (some (.int .i64 484)) s4=.ok v19 s4:=p3;rw[p3',af];refine tl (hS st.nx G' page pr' vr s nx aac AQ hC2 s4 v19 k4 λX hX=>?_) ?_
  .obtain⟨axe,q3,q4⟩:=(lq X hX).both (n:=512) qE (by rw[Ox]) (l:=4) (h:=484) qE qE s4;rw[p3]at q3;cases q3;rw[ZW]at q4;exact q4
  .rintro _ s6 ⟨rfl,G2,yz⟩;have e4:ai .neq (some .int) true (I 0) (.int .i64 0) s6=.ok (.bool false) s6:=rfl;rw[e4,af,ag,aET u7,gH i qE,af];exact next (fu-1) _ _ qE ⟨G2,i+1,nx,pr',_,qE,by simp at hpr;omega,rfl,yz⟩
 .rw[aEO hc,aET u7];have:pr=[]:=aFi.1 qE;subst this;obtain⟨rfl,rfl⟩:=hC;have e5:ai .neq (some .int) true (I ((0:Nat):Int)) (.int .i64 0) s=.ok (.bool false) s:=rfl;rw[e5,af,ag,aET u7];exact⟨aer,st.nx,G',aEQ _,aac⟩
end
end
section
variable {τ:Nat} {π:PI} {st st':St} {G:GM}
def Tg.wI (h:Tg τ π st G){X:List Nat}(hk:Kp X st st')(hx:∀b∈X,b∉π.all/\b≠τ):Tg τ π st' G:=by
 obtain⟨ty,g,hg⟩:=h.get;exact⟨h.pg.keep hk λb hb hh=>(hx b hh).1 hb,aFg h.lt hk.nx,h.not,⟨ty,g,(hk.keep τ h.lt λhh=>(hx τ hh).2 rfl).trans hg⟩,hk.fresh h.fr⟩
structure abq (τ:Nat)(π:PI)(st:St)(G:GM)(c:dh)(bx:Nat)(alr:List UInt8)(q:Nat)(ps:List Nat)(page:Nat)(v:List UInt8)(s:St)(x:CV)(F:List Nat)(taken pad:List UInt8):Prop where
 tg:Tg τ π s G
 chain:pC G ps page v
 box:s.m.g q=some (.cells (aU c) 109 false)
 lt:q<s.nx
 ne:q≠bx
 gbx:s.m.g bx=some (.cells [x] 93 false)
 bl:bx<s.nx
 own:Own s x 1 5 (aj (taken++pad)) F
 F:∀b∈F,bx<b/\b<s.nx/\b≠q
 tot:alr=taken++v
 alY:v≠[]->pad=[]
 axA:pad.length<=480
 kp:Kp [] st s
def Fz (h:Tg τ π st G){c:dh}{v:List UInt8}{ps:List Nat}(hc:c.ok true)(hv:Dl G c v ps):R 53 [.ptr τ 0,.agg (aU c)] st λx st'=>x=.tuple [.str v,I 0]/\Kp [] st st':=by
 refine bP ?_;rw[w53];rw[bV,aT];refine⟨rfl,?_⟩;have k1:Kp [] st (St.new st (.cells (aU c) 109 false)):=(Kp.refl [] st).new _;have g1:(St.new st (.cells (aU c) 109 false)).m.g st.nx=some (.cells (aU c) 109 false):=ao _ _;have n1:(St.new st (.cells (aU c) 109 false)).nx=st.nx+1:=rfl;generalize St.new st (.cells (aU c) 109 false)=s1 at*
 have EM:∀o x,(aU c)[o]?=some x->∀s,s.m.g st.nx=some (.cells (aU c) 109 false)->∀K:CV->Prop,fl o (.ptr st.nx 0) s K=K x:=by
  intro o x hx s hs K;simp only[fl,ah,af,aB,hs,aq,aER,hx,ay]
 rw[EM 2 (I c.dU) rfl s1 g1,EM 1 (.str c.value) rfl s1 g1];rcases hv with⟨h0,rfl,rfl⟩|⟨h0,hsz,uR,Iu,hC⟩
 .have e1:ai .eql (some .int) true (I c.dU) (.int .i64 0) s1=.ok (.bool true) s1:=by rw[h0];rfl
  rw[e1,af,ag,aEW rfl];exact⟨rfl,k1⟩
 .have e1:ai .eql (some .int) true (I c.dU) (.int .i64 0) s1=.ok (.bool false) s1:=by rw[az,cI,aEO qE]
  rw[e1,af,ag,aET u7,cH,aS];have k2:Kp [] s1 (St.new s1 (.cells [.ae] 93 false)):=(Kp.refl [] s1).new _;have g2:(St.new s1 (.cells [.ae] 93 false)).m.g s1.nx=some (.cells [.ae] 93 false):=ao _ _;have n2:(St.new s1 (.cells [.ae] 93 false)).nx=s1.nx+1:=rfl;generalize St.new s1 (.cells [.ae] 93 false)=s2 at*;have rj:=(k2.keep st.nx qE uG).trans g1;have nK:=k1.trans k2 uG;have t2:=h.still nK;rw[aK (n:=4) rj rfl,af,lB,af];refine(Le (st:=s2) (τ:=τ) (π:=π) (c:=c) (G:=G) (ps:=ps) (v:=v) (λq G' ps page v' s=>G'=G/\∃x F taken pad,abq τ π st G c s1.nx v q ps page v' s x F taken pad/\st.nx<q/\s.m.g st.nx=some (.cells (aU c) 109 false)) ?_ ?_ ?_ ?_ ?_).mono ?_
  .rintro q G' ps page v' s ⟨rfl,x,F,taken,pad,hI,_⟩;exact⟨hI.tg,hI.chain,hI.box,hI.lt⟩
  .rintro q G' p pF v' s nx ⟨rfl,x,F,taken,pad,hI,hq,hst⟩ AQ hC2 s' b hk lq;have anS:v'≠[]:=by obtain⟨_,h,_⟩:=hI.chain;exact h
   have anY:=hI.alY anS;subst anY;have hns:=hk.nx;rw[dM];simp only[aFt,aFS];refine bP ?_;rw[ali];have gbx:=(hk.keep _ hI.bl uG).trans hI.gbx;have YK:=hI.own.keep hk λb hb=>⟨(hI.F b hb).2.1,uG⟩;obtain⟨m,q1,q2⟩:=(lq [] uG).src [(.int .u8 0)]
   have Iv:(v'.take 480++List.replicate (480-(v'.take 480).length) 0).length=480:=by
    have:(v'.take 480).length<=480:=O0
    rw[aEU,aFI];omega
   have hm:m=480:=by rw[bJ,Iv]at q1;omega
   subst hm;have htl:taken.length<=8192:=by have:=congrArg List.length hI.tot;rw[aEU]at this;omega
   obtain⟨x',YB,F',a1,a2,a3,a4⟩:=YK.append (n:=480) (bytes:=1) (T:=aj (v'.take 480++List.replicate (480-(v'.take 480).length) 0)) qE (by rw[bJ,Iv]) (bI _) (λb hb=>by have:=(hI.F b hb).2.1;omega) (by rw[bJ,bJ,Iv,aEU];simp;omega);have aqc:s1.nx∉F:=λh=>by have:=(hI.F _ h).1;omega
   have arf:=(a3.keep _ (by have:=hI.bl;omega) aqc).trans gbx;obtain⟨o1,o2⟩:=a2.cE;have kP:bD [x] 0 [x']=[x']:=rfl;simp only[aB,gbx,aq,aEL,ay,q2,a1,aS,aJ,arf,aW,o2,kP];refine⟨⟨rfl,abT,uG⟩,aer,G',rfl,x',F',taken++v'.take 480,List.replicate (480-(v'.take 480).length) 0,?_,hq,?_⟩
   .have rT:∀b∈F',(b∈F\/s'.nx<=b)/\b<YB.nx:=λb hb=>⟨(a4 b hb).1.imp id λh=>qE,(a4 b hb).2⟩;have azA:=a3.nx;have Z6:=(hI.kp.trans hk uG).trans a3 λb hb=>.inr (by have:=(hI.F b hb).1;omega);have eU:∀b,st.nx<=b->b∉π.all/\b≠τ:=λb hb=>⟨λhh=>Ym,λe=>Wr⟩;have Ez:Kp [s1.nx] YB (St.set YB s1.nx (.cells [x'] 93 false)):=(Kp.refl _ YB).set _ (.inl uG) (by have:=hI.bl;omega);refine⟨?_,hC2,?_,by have:=hI.lt;simp;omega,hI.ne,ar _ _ _,by have:=hI.bl;simp;omega,?_,λb hb=>?_,?_,?_,?_,?_⟩
    .exact(((hI.tg.still hk).wI a3 λb hb=>eU b (by have:=(hI.F b hb).1;omega)).wI Ez λb hb=>eU b (by simp at hb;omega))
    .rw[al _ _ _ _ hI.ne,a3.keep q (by have:=hI.lt;omega) (λh=>(hI.F q h).2.2 rfl),hk.keep q hI.lt uG];exact hI.box
    .have e:aj (taken++v'.take 480++List.replicate (480-(v'.take 480).length) 0)=aj (taken++[])++aj (v'.take 480++List.replicate (480-(v'.take 480).length) 0):=by
      rw[<-bL];simp
     rw[e]
     exact a2.mono λb hb=>al _ _ _ _ λe=>by
      rcases(rT b hb).1 with h|h
      .have:=(hI.F b h).1;omega
      .have:=hI.bl;omega
    .refine⟨?_,(rT b hb).2,?_⟩
     .rcases(rT b hb).1 with h|h
      .exact(hI.F b h).1
      .have:=hI.bl;omega
     .rcases(rT b hb).1 with h|h
      .exact(hI.F b h).2.2
      .have:=hI.lt;omega
    .rw[aFx,aFD];exact hI.tot
    .intro ij
     have:480<v'.length:=by
      rcases aGh 480 v'.length with h|h
      .exact h
      .exact absurd (aFu h) ij
     rw[aFc,aFG qE];rfl
    .rw[aFI];omega
    .exact Z6.set _ (.inr qE) (by have:=hI.bl;omega)
   .have h3:st.nx<s.nx:=by have:=hI.bl;omega
    rw[al _ _ _ _ qE,a3.keep st.nx qE (λh=>by have:=(hI.F _ h).1;omega),hk.keep st.nx h3 uG];exact hst
  .intro s3 q k3 hq1 JP hq3;refine⟨rfl,.ae,[],[],[],⟨t2.still k3,hC,hq3,JP,qE,(k3.keep _ qE uG).trans g2,by have:=k3.nx;omega,.inl ⟨rfl,rfl,rfl⟩,uG,uG,λ_=>rfl,uG,nK.trans k3 uG⟩,qE,(k3.keep _ qE uG).trans rj⟩
  .rw[hC.len,hsz];unfold cq;rw[aET qE]
  .omega
  .rintro _ s3 ⟨rfl,q,G',hq,rfl,x,F,taken,pad,hI,JP,hst⟩;have Ex:=hI.tot;rw[aFN]at Ex;have lq:Sl s3 [] x 1 (aj (taken++pad)):=hI.own.sl λb hb=>⟨uG,(hI.F b hb).2.1⟩;have e2:ai .neq (some .int) true (I 0) (.int .i64 0) s3=.ok (.bool false) s3:=rfl;have hlen:=lq.len (taken++pad).length uG qE s3;have e3:ai .lss none false (I (taken++pad).length) (I c.size) s3=.ok (.bool false) s3:=by rw[dC,aEO (by rw[hsz,Ex,aEU];omega)]
   obtain⟨v',p1,p2⟩:=lq.hi (n:=(taken++pad).length) qE uG (h:=c.size) (by rw[hsz,Ex,aEU];omega) s3
   have BO:(aj (taken++pad)).take (c.size*1)=aj v:=by
    rw[bL,aGB,hsz,Ex,aGj uG]
   rw[BO]at p2
   have apu:∀K:CV->Prop,gQ (some true) 3 (.ptr st.nx 0) s3 K=K (I c.size):=λK=>by
    simp only[gQ,bh];exact EM 3 (I c.size) rfl s3 hst K
   simp only[e2,af,aG,aEM,aFa,aFf,bh,aB,hI.gbx,aq,aEL,ay,hlen,apu,e3,aF,ag,EM 3 (I c.size) rfl s3 hst,p1,p2.str];exact⟨aer,hI.kp⟩
end
section
variable {ps:List Nat}{n:Nat}{d:List UInt8}{g:Bool}
def iW (G:GM)(ps:List Nat):GM:=ps.foldl GM.drop G
structure Yf (G:GM)(ps:List Nat):Prop where
 ok:uY (iW G ps)
 bW:∀q,(iW G ps).bW q↔G.bW q/\q∉ps
 free:(iW G ps).cF=G.cF+ps.length
 cont:∀q,(iW G ps).cont q=G.cont q
 root:(iW G ps).root=G.root
 aH:(iW G ps).aH=G.aH
def X4 {G:GM}(h:uY G)(hn:ps.Nodup)(hu:∀p∈ps,G.bW p):Yf G ps:=by
 induction ps generalizing G with
 |nil=>exact⟨h,λq=>by simp[iW],rfl,λ_=>rfl,rfl,rfl⟩
 |cons p ps ih=>
  rw[aFd]at hn;have hd:=tU h (hu p uG);have:=ih hd.ok hn.2 λq hq=>(hd.bW q).2 ⟨hu q TN,λe=>hn.1 (e▸hq)⟩;have e:iW G (p::ps)=iW (G.drop p) ps:=rfl;refine⟨by rw[e];exact this.ok,λq=>?_,?_,λq=>by rw[e,this.cont];rfl,by rw[e,this.root];rfl,by rw[e,this.aH];rfl⟩
  .rw[e,this.bW,hd.bW];simp only[aEP,aGk];constructor
   .rintro⟨⟨a,b⟩,c⟩;exact⟨a,b,c⟩
   .rintro⟨a,b,c⟩;exact⟨⟨a,b⟩,c⟩
  .rw[e,this.free,hd.free,aFp];omega
def HB (G:GM)(ps:List Nat)(p:Nat):iW G (ps++[p])=(iW G ps).drop p:=by unfold iW;rw[aGS];rfl
section
variable {τ:Nat} {π:PI} {st st':St} {G:GM}
def CY (h:Tg τ π st G){c:dh}{v:List UInt8}(hc:c.ok true)(hv:Dl G c v ps)(ja:ps.Nodup):R 46 [.ptr τ 0,.agg (aU c)] st λx st'=>x=I 0/\Kp π.W st st'/\Tg τ π st' (iW G ps):=by
 refine bP ?_;rw[w46];rw[bV,FT];refine⟨rfl,?_⟩;have k1:Kp [] st (St.new st (.cells [.ptr τ 0] 27 false)):=(Kp.refl [] st).new _;have g1:(St.new st (.cells [.ptr τ 0] 27 false)).m.g st.nx=some (.cells [.ptr τ 0] 27 false):=ao _ _;have n1:(St.new st (.cells [.ptr τ 0] 27 false)).nx=st.nx+1:=rfl;generalize St.new st (.cells [.ptr τ 0] 27 false)=s1 at*;rw[bV,aT];refine⟨rfl,?_⟩;have k2:Kp [] s1 (St.new s1 (.cells (aU c) 109 false)):=(Kp.refl [] s1).new _;have g2:(St.new s1 (.cells (aU c) 109 false)).m.g s1.nx=some (.cells (aU c) 109 false):=ao _ _;have n2:(St.new s1 (.cells (aU c) 109 false)).nx=s1.nx+1:=rfl;generalize St.new s1 (.cells (aU c) 109 false)=s2 at*;have rj:=(k2.keep st.nx qE uG).trans g1;have nK:=k1.trans k2 uG;have t2:=h.still nK;have oO:(aU c)[2]?=some (I c.dU):=rfl;simp only[fl,ah,af,aB,g2,aq,aER,oO,ay];rcases hv with⟨h0,rfl,rfl⟩|⟨h0,hsz,uR,Iu,hC⟩
 .have e1:ai .eql (some .int) true (I c.dU) (.int .i64 0) s2=.ok (.bool true) s2:=by rw[h0];rfl
  rw[e1,af,ag,aEW rfl];exact⟨aer,nK.mono uG,t2⟩
 .have e1:ai .eql (some .int) true (I c.dU) (.int .i64 0) s2=.ok (.bool false) s2:=by rw[az,cI,aEO qE]
  simp only[e1,af,ag,aEM,aFa,rj,aq,aEL,ay];rw[aK (n:=4) g2 rfl,af,lB,af];have mV:=h.Oc;have Zo:st.nx∉π.W:=λhh=>by have:=mV _ hh;omega
  refine(Le (st:=s2) (τ:=τ) (π:=π) (c:=c) (G:=G) (ps:=ps) (v:=v) (λq G' pr page v' s=>∃done,G'=iW G done/\ps=done++pr/\Tg τ π s G'/\pC G' pr page v'/\s.m.g q=some (.cells (aU c) 109 false)/\q<s.nx/\st.nx<=q/\s.m.g st.nx=some (.cells [.ptr τ 0] 27 false)/\Kp π.W st s) ?_ ?_ ?_ ?_ ?_).mono ?_
  .rintro q G' pr page v' s ⟨done,_,_,a,b,c,d,_⟩;exact⟨a,b,c,d⟩
  .rintro q G' p pr v' s nx ⟨done,rfl,e2,a1,a2,a3,a4,a5,a6,a7⟩ AQ hC2 s' b hk lq;rw[dM];simp only[aFt,aFS];refine bP ?_;rw[w94]
   have hst:st.nx<s.nx:=by
    have:=a7.nx;rcases aGh st.nx s.nx with h1|h1
    .exact h1
    .omega
   have g6:=(hk.keep st.nx hst uG).trans a6;have t':=a1.still hk;rw[aB,g6,aq,aEL,ay];refine t'.get' ?_;have hup:(iW G done).bW p:=by obtain⟨_,_,hu,_⟩:=a2;exact hu
   refine(DX t'.pg hup).mono ?_;rintro _ YB ⟨rfl,k'',p''⟩;have JM:=hk.nx;have hnW:∀x,st.nx<=x->x∉π.W:=λx hx hh=>by have:=mV x hh;omega
   refine⟨rfl,_,done++[p],(HB _ _ _).symm,by rw[e2];simp,t'.of k'' p'',?_,(k''.keep q qE (hnW q a5)).trans ((hk.keep q a4 uG).trans a3),by have:=k''.nx;omega,a5,(k''.keep st.nx qE Zo).trans g6,(a7.trans hk uG).trans k'' ael⟩
   have Tv:p∉pr:=by
    rw[e2]at ja;have:=(aFM.1 ja).2.1;exact(aFd.1 this).1
   exact hC2.kept λx hx=>⟨λhu=>((tU a1.pg.XZ hup).bW x).2 ⟨hu,λe=>Tv (e▸hx)⟩,rfl⟩
  .intro s3 q k3 hq1 JP hq3;refine⟨[],rfl,rfl,t2.still k3,hC,hq3,JP,qE,(k3.keep _ qE uG).trans rj,(nK.mono uG).trans k3 uG⟩
  .rw[hC.len,hsz];unfold cq;rw[aET qE]
  .omega
  .rintro _ s3 ⟨rfl,q,G',_,done,rfl,e2,a1,_,_,_,_,_,a7⟩;rw[aFN]at e2;subst e2;exact⟨rfl,a7,a1⟩
def Ag (hn:n<=100000)(s:St):pe 5 1 [.int .u8 0] (I n) (I n) s=.ok (.slice s.nx 0 n n 0) (St.new s (.cells (aj (List.replicate n 0)) 5 false)):=by
 have e:pe 5 1 [.int .u8 0] (I n) (I n) s=bH (Bool.and (Nat.ble n n) (Bool.and (Nat.ble (Nat.mul 1 n) 281474976710656) (Nat.ble n 9223372036854775807)))
  (.ok (.slice s.nx 0 n n 0) ⟨s.m.put s.nx (some (.cells (cM n [.int .u8 0]) 5 false)),s.nx+1⟩) .bad:=rfl
 have e1:Nat.mul 1 n=n:=aGT n;rw[e,OJ,aP,aEW (by simp only[aFl,aFs,e1];omega)];rfl
def Gu {b off cap:Nat}{L:List CV}{t:TypeId}{s:St}(hb:s.m.g b=some (.cells L t g))(hn:d.length<=n)(hl:off+d.length<=L.length):
 ∃s',gJ true 1 (.slice b off n cap 0) (.str d) s=.ok (I d.length) s'/\s'.nx=s.nx/\s'.m.g b=some (.cells (bD L off (aj d)) t g)/\∀q,q≠b->s'.m.g q=s.m.g q:=by
 have e:gJ true 1 (.slice b off n cap 0) (.str d) s=(match cellsOf true 1 (min d.length n) (.str d) s with
  |some t=>bH (Nat.beq (min d.length n) 0) (yQ .i64 s 0)
   (bH (Bool.and (bj t) (Bool.or (Nat.beq 0 0) (Nat.ble 1 cap)))
    (match s.m.g b with
    |some (.cells l ty g)=>Option.rec (Option.rec .bad (λs'=>yQ .i64 ⟨s.m.put b (some (.cells s' ty g)),s.nx⟩ (min d.length n)) (B0 l off t (off+cap*0))) (λs'=>yQ .i64 ⟨s.m.put b (some (.cells s' ty g)),s.nx⟩ (min d.length n)) (dY l off t)
    |_=>.bad) .bad)
  |none=>.bad):=rfl
 have ec:cellsOf true 1 d.length (.str d) s=some (aj d):=by
  have:cellsOf true 1 d.length (.str d) s=if d.length<=d.length then some ((d.take d.length).map bQ)else none:=rfl
  rw[this,aEW (aEQ _),List.take_length];rfl
 rw[e,aFG hn,ec];dsimp only
 by_cases h0:d.length=0
 .have:=aFi.1 h0;subst this;refine⟨s,rfl,rfl,?_,λ_ _=>rfl⟩;rw[hb];have:bD L off (aj [])=L:=Ak L off;rw[this]
 .have Nw:Nat.beq d.length 0=false:=by cases h:Nat.beq d.length 0 with|false=>rfl|true=>rw[aFw]at h;omega
  have e3:dY L off (aj d)=some (bD L off (aj d)):=by unfold dY;rw[aEW (by rw[bJ];exact hl)];rfl
  rw[Nw,bI,hb];dsimp only;rw[e3];exact⟨St.set s b (.cells (bD L off (aj d)) t g),rfl,rfl,ar _ _ _,λq hq=>al _ _ _ _ hq⟩
def Y2 (h:Tg τ π st G){x1 x8 qU:Nat}{ty:TypeId}(hf:0<G.cF)(h1:st.m.g x1=some (.cells [.ptr τ 0] ty g))(h8:st.m.g x8=some (.cells [I qU] 3 false))(l1:x1<st.nx)(l8:x8<st.nx)(w1:x1∉π.all)(w8:x8∉π.all)(hτ:x8≠τ)(ij:x1≠x8)(hd:d.length<=480)(BT:qU<=qZ):
 R 96 [.str d,.ptr x1 0,.ptr x8 0] st λx st'=>x=I 0/\Kp (x8::π.W) st st'/\Tg τ π st' (G.alloc.put G.dL (.dU qU d))/\st'.m.g x8=some (.cells [I G.dL] 3 false):=by
 refine bP ?_;rw[w96];rw[aB,h1,aq,aEL,ay];refine h.get' ?_;refine(KO h.pg hf).mono ?_;rintro _ s1 ⟨rfl,k1,p1⟩;have t1:=h.of k1 p1;have ha:=ru h.pg.XZ hf;have nW1:x1∉π.W:=λhh=>w1 (PI.Dk hh);have nW8:x8∉π.W:=λhh=>w8 (PI.Dk hh);have g1:=(k1.keep x1 l1 nW1).trans h1;have g8:=(k1.keep x8 l8 nW8).trans h8;have n1:=k1.nx;have e1:ai .neq (some .int) true (I 0) (.int .i64 0) s1=.ok (.bool false) s1:=rfl;have emk:=Ag (n:=512) qE s1;have arT:pe 5 1 [.int .u8 0] (.int .i64 512) (.int .i64 512) s1=.ok (.slice s1.nx 0 512 512 0) (St.new s1 (.cells (aj (List.replicate 512 0)) 5 false)):=emk;simp only[aE,aN,af,e1,ag,aEM,aFa,arT,aS,bG];have k2:Kp [] s1 (St.new s1 (.cells (aj (List.replicate 512 0)) 5 false)):=(Kp.refl [] s1).new _;have gb:(St.new s1 (.cells (aj (List.replicate 512 0)) 5 false)).m.g s1.nx=some (.cells (aj (List.replicate 512 0)) 5 false):=ao _ _;have n2:(St.new s1 (.cells (aj (List.replicate 512 0)) 5 false)).nx=s1.nx+1:=rfl;generalize St.new s1 (.cells (aj (List.replicate 512 0)) 5 false)=s2 at*;have g82:=(k2.keep x8 qE uG).trans g8;have rj:=(k2.keep x1 qE uG).trans g1;have t2:=t1.still k2;have esl:aQ 1 (.slice s1.nx 0 512 512 0) none (some (.int .i64 4)) s2=.ok (.slice s1.nx 0 4 512 0) s2:=rfl;simp only[esl,af,aB,g82,aq,aEL,ay];refine(Ub (b:=s1.nx) (off:=0) (len:=4) (cap:=512) (n:=qU) gb qE uG qE (by have:qU<=2147483647:=BT;omega)).mono ?_;rintro _ s3 ⟨k3,n3,g3⟩
 have qk:bD (aj (List.replicate 512 0)) 0 (aj (be 4 qU))=aj (be 4 qU)++aj (List.replicate 508 0):=by
  unfold bD;rw[aGM,aFt,bJ,il]
  congr 1
 rw[qk]at g3;have arR:aQ 1 (.slice s1.nx 0 512 512 0) (some (.int .i64 4)) none s3=.ok (.slice s1.nx 4 508 508 0) s3:=rfl;have LK:(aj (be 4 qU)++aj (List.replicate 508 0)).length=512:=by rw[aEU,bJ,bJ,il,aFI]
 obtain⟨s4,c1,c2,c3,c4⟩:=Gu (b:=s1.nx) (off:=4) (n:=508) (cap:=508) (d:=d) g3 qE qE
 have kx:bD (aj (be 4 qU)++aj (List.replicate 508 0)) 4 (aj d)=aj (iM (.dU qU d)):=by
  have e:=qa (aj (be 4 qU)) (aj (List.replicate 508 0)) (aj d);rw[bJ,il]at e;rw[e];unfold iM;rw[bL,bL]
  congr 2
  unfold aj;rw[<-aGl,aGW,aFK]
 rw[kx]at c3;have g83:=(k3.keep x8 qE vR).trans g82;have g84:=(c4 x8 qE).trans g83;have Iz:=(c4 x1 qE).trans ((k3.keep x1 qE vR).trans rj);have EB:bD [I qU] 0 [I G.dL]=[I G.dL]:=rfl;simp only[aHa,arR,af,c1,aS,aJ,g84,aW,jc,EB];refine⟨⟨rfl,rfl,uG⟩,?_⟩;have k4:Kp [s1.nx] s3 s4:=⟨qE,λq hq hn=>c4 q (by simpa using hn),λj0 q hq=>by rw[c4 q qE];exact j0 q qE⟩;have k5:Kp [x8] s4 (St.set s4 x8 (.cells [I G.dL] 3 false)):=(Kp.refl _ s4).set _ (.inl uG) qE;have g85:(St.set s4 x8 (.cells [I G.dL] 3 false)).m.g x8=some (.cells [I G.dL] 3 false):=ar _ _ _;have g15:(St.set s4 x8 (.cells [I G.dL] 3 false)).m.g x1=some (.cells [.ptr τ 0] ty g):=(al _ _ _ _ ij).trans Iz;have gb5:(St.set s4 x8 (.cells [I G.dL] 3 false)).m.g s1.nx=some (.cells (aj (iM (.dU qU d))) 5 false):=(al _ _ _ _ qE).trans c3;have n5:(St.set s4 x8 (.cells [I G.dL] 3 false)).nx=s3.nx:=c2;generalize St.set s4 x8 (.cells [I G.dL] 3 false)=s5 at*;have eU:s1.nx∉π.all/\s1.nx≠τ:=⟨λhh=>acE,λe=>Wr⟩;have To:Kp [s1.nx,x8] s2 s5:=((k3.mono uG).trans k4 uG).trans k5 uG
 have t5:=t2.wI To λb hb=>by
  simp at hb;rcases hb with rfl|rfl
  .exact eU
  .exact⟨w8,hτ⟩
 simp only[g15,aq,aEL,ay];refine t5.get' ?_;have aoF:s1.nx<s5.nx:=qE
 have wM:=Ja (nx:=qU) (d:=d) qE
 have lq:Sl s5 [π.bn,π.bc] (.slice s1.nx 0 512 512 0) 1 (aj (iM (.dU qU d))):=.inr ⟨s1.nx,0,512,512,0,rfl,by rw[bJ,wM],⟨aEQ _,.inl rfl⟩,.inr ⟨λhh=>by
  have:s1.nx∈π.W:=by unfold PI.W;simp at hh;rcases hh with h|h<;>simp[h]
  exact eU.1 (PI.Dk this),aoF,_,_,_,gb5,by rw[bJ,wM];omega,by rw[aFr,aEX (by rw[bJ,wM];omega)]⟩⟩
 refine(KN t5.pg ((ha.bW _).2 (.inr rfl)) lq wM).mono ?_;rintro _ s6 ⟨rfl,k6,p6⟩;have nz:Kp [s1.nx,x8] s1 s5:=(k2.mono uG).trans To uG;refine⟨rfl,?_,t5.of k6 p6,(k6.keep x8 qE nW8).trans g85⟩;refine((k1.mono (by intro q hq;simp[hq])).trans nz (by intro q hq;simp at hq;rcases hq with rfl|rfl;right;omega;left;simp)).trans k6 (by intro q hq;simp[hq])
end
end
