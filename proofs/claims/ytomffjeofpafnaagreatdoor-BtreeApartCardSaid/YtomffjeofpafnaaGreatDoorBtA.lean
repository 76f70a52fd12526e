import Derived.Test.YtomffjeofpafnaaGreatDoorPagC
namespace Lim
open Go
noncomputable section
set_option maxRecDepth 100000
structure Tg (τ:Nat)(π:PI)(st:St)(G:GM):Prop where
 pg:Pg π st G
 lt:τ<st.next
 not:τ∉π.all
 get:∃ty g,st.mem.get τ=some (.cells [.ptr π.p 0] ty g)
 fr:cT st
section
variable {τ:Nat} {π:PI} {st st':St} {G:GM}
theorem PI.BW {b:Nat}(h:b∈π.W):b∈π.all:=by unfold PI.W at h;unfold PI.all;simp at h⊢;rcases h with h|h|h|h<;>simp[h]
theorem Tg.still (h:Tg τ π st G)(hk:Kp [] st st'):Tg τ π st' G:=by
 obtain⟨ty,g,hg⟩:=h.get;exact⟨h.pg.still hk,aBs h.lt hk.next,h.not,⟨ty,g,(hk.keep τ h.lt (by simp)).trans hg⟩,hk.fresh h.fr⟩
theorem Tg.of (h:Tg τ π st G){G':GM}(hk:Kp π.W st st')(hp:Pg π st' G'):Tg τ π st' G':=by
 obtain⟨ty,g,hg⟩:=h.get;exact⟨hp,aBs h.lt hk.next,h.not,⟨ty,g,(hk.keep τ h.lt fun hh=>h.not (PI.BW hh)).trans hg⟩,hk.fresh h.fr⟩
theorem Tg.get' (h:Tg τ π st G){k:CV->Prop}(hk:k (.ptr π.p 0)):fH 0 (.ptr τ 0) st k:=by
 obtain⟨ty,g,hg⟩:=h.get;simp only[fH,bA,ah,af,az,hg,ar,aAT,aAQ,au];exact hk
theorem Tg.LR (h:Tg τ π st G):∀b∈π.W,b<st.next:=h.pg.LR
theorem yn (h:Tg τ π st G){page:Nat}{n:aZ}(hn:mF G page n):R 90 [.ptr τ 0,I page] st (vP n st):=by
 refine bO ?_;rw[w90];have k1:Kp [] st (St.new st (.cells [.bool false, .ae, .ae] 105 false)):=(Kp.refl [] st).new _;have g1:(St.new st (.cells [.bool false, .ae, .ae] 105 false)).mem.get st.next=some (.cells [.bool false, .ae, .ae] 105 false):=aq _ _;have n1:(St.new st (.cells [.bool false, .ae, .ae] 105 false)).next=st.next+1:=rfl;rw[cM,aT];generalize St.new st (.cells [.bool false, .ae, .ae] 105 false)=s1 at*;have h1:=h.still k1;refine h1.get' ?_;refine(NJ h1.pg hn.bL).mono ?_;rintro _ s2 ⟨k2,hl,b,rfl,g2,b1,b2⟩;rw[hn.cont]at hl g2;have n2:=k2.next;have e1:aj .eql (some .int) true (I 0) (.int .i64 1) s2= .ok (.bool false) s2:=rfl;have e2:aj .neq (some .int) true (I 0) (.int .i64 0) s2= .ok (.bool false) s2:=rfl;simp only[aD,aJ,af,db,e1,ag,aAR,aBf,aK,aL,e2];have Mc:(ai (il (.node n))).length=512:=by simpa using hl
 have kN:Sl s2 [] (.slice b 0 512 512 1) 1 (ai (lY n++List.replicate (512-n.size) 0)):= .inr ⟨b,0,512,512,1,rfl,(show(ai (il (.node n))).length=512*1 by rw[Mc]),⟨aAU _, .inr rfl⟩, .inr ⟨by simp,b2,_,_,_,g2,by omega,by rw[aBx,aBa (by omega)];rfl⟩⟩;have mV:Kp [] st s2:=k1.trans k2 (by simp);have hs:=hn.size;refine(LD (mV.fresh h.fr) kN hn.ok (by omega)).mono ?_;rintro _ s5 ⟨x,rfl,k5,hx⟩;have n5:=k5.next;obtain⟨vc,vk,rfl,c1,c2⟩:=hx [st.next] (by simp;omega);obtain⟨x1,x2,x3⟩:=c1.bu;obtain⟨y1,y2,y3⟩:=c2.bu;simp only[aD,aJ,af];refine rq rfl rfl (by simp[x2,y2]) ?_;have k7:Kp [] s5 (St.new s5 (.cells [.bool n.leaf,vc,vk] 105 false)):=(Kp.refl _ s5).new _;have g7:(St.new s5 (.cells [.bool n.leaf,vc,vk] 105 false)).mem.get s5.next=some (.cells [.bool n.leaf,vc,vk] 105 false):=aq _ _;have n7:(St.new s5 (.cells [.bool n.leaf,vc,vk] 105 false)).next=s5.next+1:=rfl;generalize St.new s5 (.cells [.bool n.leaf,vc,vk] 105 false)=s7 at*;have hk7:Kp [] st s7:=(mV.trans k5 (by simp)).trans k7 (by simp);have Lq:=(k7.keep st.next (by omega) (by simp)).trans ((k5.keep st.next (by omega) (by simp)).trans ((k2.keep st.next (by omega) (by simp)).trans g1));have e3:aj .eql (some .int) true (I 0) (.int .i64 0) s7= .ok (.bool true) s7:=rfl;have hlen:=(c1.mono (k7.mono (by simp))).len n.cells.length (br _) (by omega) s7
 have fin:us (aI 3 (.ptr s5.next 0) s7) fun eX=>upon (aR 3 (.ptr st.next 0) eX s7) fun _ s9=>us (aI 3 (.ptr st.next 0) s9) fun eD=>vP n st (.tuple [eD,I 0]) s9:=by
  have kg:bt [.bool false, .ae, .ae] 0 [.bool n.leaf,vc,vk]=[.bool n.leaf,vc,vk]:=rfl;rw[aO (n:=3) g7 rfl,af,aH,Lq,aS,aU,kg];refine⟨⟨rfl,by simp[x2,y2],by simp⟩, ?_⟩;rw[aO (n:=3) (ao _ _ _) rfl,af];have k9:Kp [st.next] s7 (St.set s7 st.next (.cells [.bool n.leaf,vc,vk] 105 false)):=(Kp.refl _ s7).set _ (.inl (by simp)) (by omega);refine⟨_,rfl,hk7.set _ (.inr (aAU _)) (by omega),fun X hX=> ?_⟩;have:=(hx (X++[st.next]) (by intro b hb;simp at hb;rcases hb with h|h;have:=hX b h;omega;omega)).mono (k7.mono (by simp));exact(this.mono (k9.mono (by simp))).ef (by intro q hq;simp[hq])
 have iR:=hn.full;cases fp:n.leaf with
 |true=>
  rw[fp]at g7;simp only[e3,af,aG,aBr,iU,bh,ah,az,g7,ar,aAT,aAQ,au,du,aBm,aF,aAR,aBf,cc,ag];exact fin
 |false=>
  rw[fp]at g7 iR;have gT:n.cells≠[]:=by rcases iR with h|h;cases h;exact h
  have Sy:0<n.cells.length:=aDd.2 gT;have e4:aj .eql (some .int) true (I n.cells.length) (.int .i64 0) s7= .ok (.bool false) s7:=by rw[av,cB,aAW (by omega)]
  simp only[e3,af,aG,aBr,iU,bh,ah,az,g7,ar,aAT,aAS,aAQ,au,du,aBk,aF,hlen,e4,ag,aAR,aBf];exact fin
theorem Mm (m:Nat):cO m [.int .u8 0]=ai (List.replicate m 0):=by
 induction m with
 |zero=>rfl
 |succ m ih=>
  have:cO (m+1) [CV.int .u8 0]= .int .u8 0::cO m [.int .u8 0]:=by simp[cO,aDb]
  rw[this,ih];rfl
theorem lr (h:Tg τ π st G){page:Nat}{n:aZ}{v:CV}(hu:G.bL page)(hv:IsNode st [] v n)(hn:n.ok)(hs:n.size<=512):R 100 [.ptr τ 0,I page,v] st fun y st'=>y=I 0/\Kp π.W st st'/\Tg τ π st' (G.put page (.node n)):=by
 have yc:=hv;obtain⟨vc,vk,rfl,h1,h2⟩:=hv;refine bO ?_;rw[aik];rw[cr,aU];refine⟨rfl, ?_⟩;have k1:Kp [] st (St.new st (.cells [.bool n.leaf,vc,vk] 105 false)):=(Kp.refl [] st).new _;have g1:(St.new st (.cells [.bool n.leaf,vc,vk] 105 false)).mem.get st.next=some (.cells [.bool n.leaf,vc,vk] 105 false):=aq _ _;generalize St.new st (.cells [.bool n.leaf,vc,vk] 105 false)=s1 at*;have t1:=h.still k1;rw[aO (n:=3) g1 rfl,af];refine(LB t1.fr (yc.mono k1) hn hs).mono ?_;rintro _ s2 ⟨x,rfl,m2⟩;have k2:=m2.kp;have t2:=t1.still k2;obtain⟨ty,g,hg⟩:=t2.get;have e1:aj .neq (some .int) true (I 0) (.int .i64 0) s2= .ok (.bool false) s2:=rfl;have e2:aj .sub none true (.int .i64 512) (I n.size) s2= .ok (I ((512-n.size:Nat):Int)) s2:=by rw[av,dJ,bD (by omega)];congr 2;omega
 have hlen:=(m2.sl [] (by simp)).len n.size (by simp[aZ.size]) (by omega) s2
 have aok:dg .zeros 1 [(.int .u8 0)] (I ((512-n.size:Nat):Int)) s2=some (512-n.size,ai (List.replicate (512-n.size) 0)):=by
  have:dg .zeros 1 [(.int .u8 0)] (I ((512-n.size:Nat):Int)) s2=bC (Nat.ble (512-n.size) 1099511627776) (some (512-n.size,cO (512-n.size) [.int .u8 0])) none:=rfl;rw[this,aM,aBb (by rw[aBy];omega),Mm]
 obtain⟨F,a1,a2,a3⟩:=m2;have tk:(ai (lY n)).length=n.size:=by simp[aZ.size]
 obtain⟨v',s3,F',b1,b2,b3,b4⟩:=a2.append (n:=512-n.size) (bytes:=1) (T:=ai (List.replicate (512-n.size) 0)) (by omega) (by simp) (bE _) (fun b hb=>(a3 b hb).2) (by simp[aZ.size]at*;omega);simp only[aD,aJ,af,e1,ag,aAR,aBf,bG,bA,ah,az,hg,ar,aAT,aAQ,au,hlen,e2,aok,b1,aT];have k3:Kp [] s1 s3:=a1.trans b3 fun q hq=> .inr (a3 q hq).1;have t3:=t1.still k3;obtain⟨ty3,g3,hg3⟩:=t3.get;rw[<-bH]at b2
 have kN:Sl s3 [π.bn,π.bc] v' 1 (ai (il (.node n))):=b2.sl fun b hb=>⟨fun hh=>by
  have h9:b<st.next:=h.LR b (by unfold PI.W;simp at hh;rcases hh with h|h<;>simp[h]);have:=k1.next;have:=k2.next;rcases(b4 b hb).1 with h|h
  ·have:=(a3 b h).1;omega
  ·omega,(b4 b hb).2⟩
 refine(I2 t3.pg hu kN (Hh hs)).mono ?_;rintro _ s4 ⟨rfl,k4,p4⟩;simp only[hg3,ar,aAQ,au];have jf:Kp [] st s3:=k1.trans k3 (by simp);have qK:Kp π.W st s4:=(jf.mono (by simp)).trans k4 fun q hq=> .inl hq;exact⟨⟨⟨trivial,trivial⟩,trivial⟩,trivial,trivial,qK,h.of qK p4⟩
theorem xQ (h:Tg τ π st G){n:aZ}{v:CV}(hf:0<G.ck)(hv:IsNode st π.W v n)(hn:n.ok)(hs:n.size<=512):R 48 [.ptr τ 0,v] st fun y st'=>y= .tuple [I G.dG,I 0]/\Kp π.W st st'/\Tg τ π st' (G.alloc.put G.dG (.node n)):=by
 have yc:=hv;obtain⟨vc,vk,rfl,h1,h2⟩:=hv;refine bO ?_;rw[w48];rw[cr,aU];refine⟨rfl, ?_⟩;have k1:Kp [] st (St.new st (.cells [.bool n.leaf,vc,vk] 105 false)):=(Kp.refl [] st).new _;have g1:(St.new st (.cells [.bool n.leaf,vc,vk] 105 false)).mem.get st.next=some (.cells [.bool n.leaf,vc,vk] 105 false):=aq _ _;have n1:(St.new st (.cells [.bool n.leaf,vc,vk] 105 false)).next=st.next+1:=rfl;generalize St.new st (.cells [.bool n.leaf,vc,vk] 105 false)=s1 at*;have t1:=h.still k1;refine t1.get' ?_;refine(I3 t1.pg hf).mono ?_;rintro _ s2 ⟨rfl,k2,p2⟩;have t2:=t1.of k2 p2;have hW:st.next∉π.W:=fun hh=>by have:=h.LR _ hh;omega
 have g2:=(k2.keep st.next (by omega) hW).trans g1;have e1:aj .neq (some .int) true (I 0) (.int .i64 0) s2= .ok (.bool false) s2:=rfl;simp only[aD,aJ,af,e1,ag,aAR,aBf];rw[aO (n:=3) g2 rfl,af];have ha:=qu h.pg.Vd hf;have hv2:IsNode s2 [] (.agg [.bool n.leaf,vc,vk]) n:=((yc.mono (k1.mono (by simp))).mono k2).ef (by simp);refine(lr t2 ((ha.bL _).2 (.inr rfl)) hv2 hn hs).mono ?_;rintro _ s3 ⟨rfl,k3,t3⟩;exact⟨rfl,((k1.mono (by simp)).trans k2 fun q hq=> .inl hq).trans k3 fun q hq=> .inl hq,t3⟩
theorem RA {v:CV}{n:aZ}{key:bZ}(h:IsNode st [] v n)(hn:n.ok)(hl:n.cells.length<=100000):R 92 [v, .str key] st fun x st'=>x=I (iG n key)/\Kp [] st st':=by
 have h':=h;obtain⟨vc,vk,rfl,h1,h2⟩:=h;refine bO ?_;rw[w92];rw[cr,aU];refine⟨rfl, ?_⟩;have k1:Kp [] st (St.new st (.cells [.bool n.leaf,vc,vk] 105 false)):=(Kp.refl [] st).new _;have g1:(St.new st (.cells [.bool n.leaf,vc,vk] 105 false)).mem.get st.next=some (.cells [.bool n.leaf,vc,vk] 105 false):=aq _ _;generalize St.new st (.cells [.bool n.leaf,vc,vk] 105 false)=s1 at*;rw[aO (n:=3) g1 rfl,af];refine(PA (h'.mono k1) hl).mono ?_;rintro _ s2 ⟨rfl,k2⟩;have hle:n.find key<=n.cells.length:=aDf;have vC:=Wj hn.sorted key;have hk:Kp [] st s2:=k1.trans k2 (by simp);simp only[aD,aJ,af,ag];cases hc:n.cells[n.find key]? with
 |none=>
  rw[hc]at vC;have hb:n.hasB key=false:=by unfold aZ.hasB;rw[hc]
  rw[hb,aAZ (by decide)];exact⟨by rw[vC],hk⟩
 |some c=>
  rw[hc]at vC;dsimp only at vC;have hb:n.hasB key=decide (c.key=key):=by unfold aZ.hasB;rw[hc]
  rw[hb]
  by_cases he:c.key=key
  ·rw[aBb he]at vC;rw[aBc he,aBb rfl,ik _ (by omega),af];exact⟨by rw[vC],hk⟩
  ·rw[aAZ he]at vC;rw[aAW he,aAZ (by decide)];exact⟨by rw[vC],hk⟩
end
section
variable {τ:Nat} {π:PI} {st st':St} {G:GM}
def DL (st:St)(X:List Nat)(row:List CV)(s:cE):Prop:=∃vc vk,row=[I s.page,I s.at_, .bool s.n.leaf,vc,vk]/\Sl st X vc 4 (bj s.n.cells)/\Sl st X vk 1 (bU s.n.kids)
def dC (st:St)(X:List Nat):List (List CV)->List cE->Prop
 |[],[]=>True
 |r::rs,s::l=>DL st X r s/\dC st X rs l
 |_,_=>False
theorem dC.mono {X:List Nat}{rs:List (List CV)}{l:List cE}(h:dC st X rs l)(hk:Kp X st st'):dC st' X rs l:=by
 induction rs generalizing l with
 |nil=>cases l with|nil=>trivial|cons s l=>exact h
 |cons r rs ih=>cases l with
  |nil=>exact h
  |cons s l=>obtain⟨⟨vc,vk,a,b,c⟩,d⟩:=h;exact⟨⟨vc,vk,a,b.mono hk,c.mono hk⟩,ih d⟩
theorem dC.ef {X Y:List Nat}{rs:List (List CV)}{l:List cE}(h:dC st X rs l)(hy:∀q∈Y,q∈X\/st.next<=q):dC st Y rs l:=by
 induction rs generalizing l with
 |nil=>cases l with|nil=>trivial|cons s l=>exact h
 |cons r rs ih=>cases l with
  |nil=>exact h
  |cons s l=>obtain⟨⟨vc,vk,a,b,c⟩,d⟩:=h;exact⟨⟨vc,vk,a,b.ef hy,c.ef hy⟩,ih d⟩
theorem dC.snoc {X:List Nat}{rs:List (List CV)}{l:List cE}{r:List CV}{s:cE}(h:dC st X rs l)(hr:DL st X r s):dC st X (rs++[r]) (l++[s]):=by
 induction rs generalizing l with
 |nil=>cases l with|nil=>exact⟨hr,trivial⟩|cons s l=>exact h.elim
 |cons r rs ih=>cases l with|nil=>exact h.elim|cons s l=>exact⟨h.1,ih h.2⟩
theorem dC.len {X:List Nat}{rs:List (List CV)}{l:List cE}(h:dC st X rs l):rs.length=l.length:=by
 induction rs generalizing l with
 |nil=>cases l with|nil=>rfl|cons s l=>exact h.elim
 |cons r rs ih=>cases l with|nil=>exact h.elim|cons s l=>simp[ih h.2]
theorem dC.w {X:List Nat}{rs:List (List CV)}{l:List cE}(h:dC st X rs l):∀x∈rs,x.length=5:=by
 induction rs generalizing l with
 |nil=>simp
 |cons r rs ih=>cases l with
  |nil=>exact h.elim
  |cons s l=>
   obtain⟨⟨vc,vk,rfl,b,c⟩,d⟩:=h;intro x hx;rcases aAX.1 hx with rfl|hx
   ·rfl
   ·exact ih d x hx
theorem dC.at {X:List Nat}{rs:List (List CV)}{l:List cE}(h:dC st X rs l){i:Nat}(hi:i<l.length):∃fw:i<rs.length,DL st X rs[i] l[i]:=by
 induction rs generalizing l i with
 |nil=>cases l with
  |nil=>simp at hi
  |cons s l=>exact h.elim
 |cons r rs ih=>cases l with
  |nil=>exact h.elim
  |cons s l=>
   cases i with
   |zero=>exact⟨by simp,h.1⟩
   |succ i=>obtain⟨a,b⟩:=ih h.2 (i:=i) (by simpa using hi);exact⟨by simp;omega,b⟩
theorem dC.one {X:List Nat}{rs:List (List CV)}{l:List cE}(h:dC st X rs l):aX rs.flatten=true:=by
 induction rs generalizing l with
 |nil=>rfl
 |cons r rs ih=>cases l with
  |nil=>exact h.elim
  |cons s l=>
   obtain⟨⟨vc,vk,rfl,b,c⟩,d⟩:=h;rw[aCo,qE,ih d];simp[b.bu.2.1,c.bu.2.1]
def dN (st:St)(X:List Nat)(x:CV)(l:List cE):Prop:=∃rows,Sl st X x 5 rows.flatten/\dC st X rows l
theorem dN.mono {X:List Nat}{x:CV}{l:List cE}(h:dN st X x l)(hk:Kp X st st'):dN st' X x l:=by
 obtain⟨rows,a,b⟩:=h;exact⟨rows,a.mono hk,b.mono hk⟩
theorem dN.ef {X Y:List Nat}{x:CV}{l:List cE}(h:dN st X x l)(hy:∀q∈Y,q∈X\/st.next<=q):dN st Y x l:=by
 obtain⟨rows,a,b⟩:=h;exact⟨rows,a.ef hy,b.ef hy⟩
def TE (G:GM)(key:bZ)(L:List bB)(st:St)(y:CV)(st':St):Prop:=
 Kp [] st st'/\∃x,y= .tuple [x,I 0]/\((G.root=0/\x= .ae)\/∃f rest,jI G key f rest L/\rest.length<=16/\∀X,(∀b∈X,b<st.next)->dN st' X x (rest.reverse++[f]))
theorem xX (h:Tg τ π st G){L:List bB}(ht:fv G L)(key:bZ):R 45 [.ptr τ 0, .str key] st (TE G key L st):=by
 refine bO ?_;rw[w45];simp only[db,aK,aL];refine h.get' ?_;refine(HA h.pg).same ?_
 by_cases h0:G.root=0
 ·
   refine bM (fun fu vs s=>vs=[.ptr τ 0, .str key, .ae,I G.root]/\s=st) ?_ (n:=0) ⟨rfl,rfl⟩;rintro fu vs s k ⟨rfl,rfl⟩ next;have e1:aj .neq (some .int) true (I G.root) (.int .i64 0) s= .ok (.bool false) s:=by rw[h0];rfl
   simp only[aK,aL,e1,af,ag,aAR,aBf];exact⟨Kp.refl _ _, .ae,rfl, .inl ⟨h0,rfl⟩⟩
 ·obtain⟨H,ps0,acf,WW⟩:=ht.tree.resolve_left fun h=>h0 h.1;have hH:=WW.deep acf ht.ok
  refine bM (fun fu vs s=>∃(l:List cE) (hh page:Nat) (lo:bZ) (hi:Option bZ) (Ll Lr Lm:List bB) (ps q:List Nat) (x:CV) (rows:List (List CV)) (F:List Nat),
   fu=hh/\vs=[.ptr τ 0, .str key,x,I page]/\Kp [] st s/\Ctx G hh l.reverse page lo hi Ll Lr ps/\Sub G hh page lo hi Lm q/\ju lo key/\Bt key hi/\(q++ps).Nodup/\Ll++(Lm++Lr)=L/\l.length+hh=H/\Own s x 5 107 rows.flatten F/\(∀b∈F,st.next<=b/\b<s.next)/\
   (∀X,(∀b∈X,b<st.next\/b∈F)->dC s X rows l)) ?_ (n:=H) ⟨[],H,G.root,[],none,[],[],L,[],ps0, .ae,[],[],rfl,rfl,Kp.refl _ _,⟨rfl,rfl,rfl,rfl,rfl,rfl⟩,WW,R7 _,trivial,by simpa using acf,by simp,by simp, .inl ⟨rfl,rfl,rfl⟩,by simp,fun X hX=>trivial⟩
  rintro fu vs s k ⟨l,hh,page,lo,hi,Ll,Lr,Lm,ps,q,x,rows,F,rfl,rfl,hk,vD,te,wy,GO,iL,hL,hlen,vx,hF,fP⟩ next;have Ma:=te;obtain⟨n,qn,hn,jT,rfl⟩:=te;have Sy:=hn.bL.1;have e1:aj .neq (some .int) true (I page) (.int .i64 0) s= .ok (.bool true) s:=by rw[av,fj,aAW (by omega)];rfl
  simp only[aK,aL,e1,af,ag,aBr];have ts:=h.still hk;have hns:=hk.next;refine(yn ts hn).mono ?_;rintro _ s3 ⟨xn,rfl,k3,hxn⟩;have n3:=k3.next;obtain⟨vc,vk,rfl,c1,c2⟩:=hxn [] (by simp);obtain⟨x1,x2,x3⟩:=c1.bu;obtain⟨y1,y2,y3⟩:=c2.bu;simp only[aD,aJ,af];refine rq rfl rfl (by simp[x2,y2]) ?_;have k5:Kp [] s3 (St.new s3 (.cells [.bool n.leaf,vc,vk] 105 false)):=(Kp.refl _ s3).new _;have g5:(St.new s3 (.cells [.bool n.leaf,vc,vk] 105 false)).mem.get s3.next=some (.cells [.bool n.leaf,vc,vk] 105 false):=aq _ _;have n5:(St.new s3 (.cells [.bool n.leaf,vc,vk] 105 false)).next=s3.next+1:=rfl;generalize St.new s3 (.cells [.bool n.leaf,vc,vk] 105 false)=s5 at*;have Fy:Kp [] s s5:=k3.trans k5 (by simp);have o5:=vx.keep Fy fun b hb=>⟨(hF b hb).2,by simp⟩;have U5:=(fP [] (by simp));have vu:rows.length=l.length:=U5.len;have Ux:rows.flatten.length=rows.length*5:=fA U5.w;have sl5:Sl s5 [] x 5 rows.flatten:=o5.sl fun b hb=>⟨by simp,by have:=(hF b hb).2;omega⟩;have e2:aj .neq (some .int) true (I 0) (.int .i64 0) s5= .ok (.bool false) s5:=rfl;have e3:aj .eql (some .int) true (I rows.length) (.int .i64 40) s5= .ok (.bool false) s5:=by rw[av,cB,aAW (by omega)]
  have oF:n.cells.length<=512:=by
   have:=dZ n.leaf n.cells;have:=hn.size;rw[bS]at this;omega
  simp only[e2,ag,aAR,aBf,sl5.len rows.length Ux (by omega) s5,af,e3,fl,ah,az,g5,ar,aAT,aAQ,au];have Dj:IsNode s5 [] (.agg [.bool n.leaf,vc,vk]) n:=⟨vc,vk,rfl,c1.mono k5,c2.mono k5⟩
  have push:∀(s6:St) (at_:Nat) (K:CV->St->Prop),Kp [] s5 s6->(∀v' s8 F',Own s8 v' 5 107 (rows++[[I page,I at_, .bool n.leaf,vc,vk]]).flatten F'->Kp [] st s8->s8.mem.get s3.next=some (.cells [.bool n.leaf,vc,vk] 105 false)->(∀b∈F',st.next<=b/\b<s8.next)->Sl s8 [] vk 1 (bU n.kids)->
   (∀X,(∀b∈X,b<st.next\/b∈F')->dC s8 X (rows++[[I page,I at_, .bool n.leaf,vc,vk]]) (l++[⟨page,at_,n⟩]))->K v' s8)->
   us (aI 3 (.ptr s3.next 0) s6) fun eD=>us (bJ [.int .i64 0, .int .i64 0, .bool false, .ae, .ae] [(0,1,I page),(1,1,I at_),(2,3,eD)] s6) fun eH=>upon (bT 107 1 (cO 1 [.int .i64 0, .int .i64 0, .bool false, .ae, .ae]) [(0,5,eH)] s6) fun eW s7=>
    upon (bQ 107 5 72 x (dg .slice 5 [.int .i64 0, .int .i64 0, .bool false, .ae, .ae] eW s7) s7) K:=by
   intro s6 at_ K k6 hK;have n6:=k6.next;have g6:=(k6.keep s3.next (by omega) (by simp)).trans g5;have Dp:Kp [] s s6:=Fy.trans k6 (by simp);rw[aO (n:=3) g6 rfl,af]
   have mP:bJ [.int .i64 0, .int .i64 0, .bool false, .ae, .ae] [(0,1,I page),(1,1,I at_),(2,3, .agg [.bool n.leaf,vc,vk])] s6= .ok (.agg [I page,I at_, .bool n.leaf,vc,vk]) s6:=by
    rw[dO];simp[cI,bt]
   rw[mP,af];have o6:=o5.keep k6 fun b hb=>⟨by have:=(hF b hb).2;omega,by simp⟩;have avh:rows.length<=16:=by omega
   refine YE 72 o6 (by omega) (fun b hb=>by have:=(hF b hb).2;omega) rfl rfl rfl (by simp[x2,y2]) (by rw[Ux];omega) ?_;intro v' s8 F' a1 a2 a3
   have U8:∀b∈F',st.next<=b/\b<s8.next/\(b∈F\/s6.next<=b):=fun b hb=>by
    obtain⟨p1,p2⟩:=a3 b hb;refine⟨?_,p2,p1⟩;rcases p1 with h|h
    ·exact(hF b h).1
    ·omega
   have lO:Kp [] st s8:=(hk.trans Dp (by simp)).trans a2 fun b hb=> .inr (hF b hb).1;have akY:s3.next∉F:=fun hh=>by have:=(hF _ hh).2;omega
   have hxF:=hxn F (fun b hb=>(hF b hb).2);obtain⟨_,_,e9,d1,d2⟩:=hxF;cases e9;have XA:Kp [] s3 s6:=k5.trans k6 (by simp);refine hK v' s8 F' (by simpa using a1) lO ((a2.keep s3.next (by omega) akY).trans g6) (fun b hb=>⟨(U8 b hb).1,(U8 b hb).2.1⟩) (((d2.mono (XA.mono (by simp))).mono a2).ef (by simp)) ?_;intro X hX;refine dC.snoc ?_ ⟨vc,vk,rfl, ?_, ?_⟩
   ·have h1:=fP ((X.filter fun b=>decide (b<st.next))++F) (by intro b hb;simp at hb;rcases hb with h|h;exact .inl h.2;exact .inr h)
    have h2:dC s (X++F) rows l:=h1.ef (by
     intro b hb;simp only[aBe,aCS,aCp]at hb⊢;rcases hb with hb|hb
     ·rcases hX b hb with h|h
      ·exact .inl (.inl ⟨hb,h⟩)
      ·rcases(U8 b h).2.2 with h2|h2
       ·exact .inl (.inr h2)
       ·right;have:=Dp.next;omega
     ·exact .inl (.inr hb))
    exact((h2.mono (Dp.mono (by simp))).mono (a2.mono fun q hq=> .inl (by simp[hq]))).ef (by intro b hb;simp[hb])
   all_goals
    obtain⟨_,_,e9,d3,d4⟩:=hxn ((X.filter fun b=>decide (b<s.next))++F) (by intro b hb;simp at hb;rcases hb with h|h;exact h.2;exact(hF b h).2);cases e9
    have O6:∀b∈X++F,b∈(X.filter fun b=>decide (b<s.next))++F\/s6.next<=b:=by
     intro b hb;simp only[aBe,aCS,aCp]at hb⊢;rcases hb with hb|hb
     ·rcases hX b hb with h|h
      ·exact .inl (.inl ⟨hb,by omega⟩)
      ·rcases(U8 b h).2.2 with h2|h2
       ·exact .inl (.inr h2)
       ·exact .inr h2
     ·exact .inl (.inr hb)
   ·exact(((d3.mono (XA.mono (by simp))).ef O6).mono (a2.mono fun q hq=> .inl (by simp[hq]))).ef (by intro b hb;simp[hb])
   ·exact(((d4.mono (XA.mono (by simp))).ef O6).mono (a2.mono fun q hq=> .inl (by simp[hq]))).ef (by intro b hb;simp[hb])
  cases fu with
  |zero=>
   have fp:n.leaf=true:=jT.leaf;rw[fp]at push;rw[fp]at g5 Dj;rw[fp,aBb rfl,aO (n:=3) g5 rfl,af];refine(PA Dj (by omega)).mono ?_;rintro _ s6 ⟨rfl,k6⟩;simp only[aD,aJ,af];refine push s6 (n.find key) _ k6 ?_;intro v' s8 F' a1 a2 a3 a4 a5 a6;refine⟨a2,v',rfl, .inr ⟨⟨page,n.find key,n⟩,l.reverse,⟨lo,hi,Ll,Lr,Lm,ps,qn,vD,hn,jT,wy,GO,by simpa using iL,hL,rfl⟩,by rw[List.length_reverse];omega,fun X hX=> ?_⟩⟩;rw[aCL];exact⟨_,a1.sl fun b hb=>⟨fun hh=>by have:=hX b hh;have:=(a4 b hb).1;omega,(a4 b hb).2⟩,a6 X fun b hb=> .inl (hX b hb)⟩
  |succ hh=>
   have fp:n.leaf=false:=jT.leaf;obtain⟨wT,yW,ur,La,Lm2,Lb,p2,pm,d1,d2,d3,d4,d5,d6,d7⟩:=vD.descend hn jT wy GO;rw[fp]at push;rw[fp]at g5 Dj;rw[fp,aAZ (by decide),aO (n:=3) g5 rfl,af];refine(RA Dj hn.ok (by omega)).mono ?_;rintro _ s6 ⟨rfl,k6⟩;refine push s6 (iG n key) _ k6 ?_;intro v' s8 F' a1 a2 a3 a4 a5 a6;obtain⟨fw,sG⟩:=aBg.1 d1;simp only[ah,af,az,a3,ar,aAT,aAS,aAQ,au];refine a5.idx (i:=iG n key) (by simpa using fw) _ ?_;have e4:(bU n.kids)[iG n key]'(by simpa using fw)=I wT:=by simp[bU,sG]
   have Xh:0<wT:=by obtain⟨_,_,hn2,_⟩:=d3;exact hn2.bL.1
   have e5:aj .eql (some .int) true (I wT) (.int .i64 0) s8= .ok (.bool false) s8:=by rw[av,cB,aAW (by omega)]
   rw[e4,e5,af,ag,aAZ (by decide)];refine next hh _ _ (by omega) ⟨l++[⟨page,iG n key,n⟩],hh,wT,yW,ur,Ll++La,Lb++Lr,Lm2,p2,pm,v',_,F',rfl,rfl,a2, ?_,d3,d4,d5, ?_, ?_,by simp;omega,a1,a4,a6⟩
   ·rw[List.reverse_append];exact d2
   ·exact d7.nodup_iff.2 (by simpa using iL)
   ·rw[<-hL,d6];simp
end
section
variable {st st':St}
theorem G9 {X:List Nat}{v:CV}{l:List UInt8}(h:Sl st X v 1 (ai l))(hl:l.length<=1000)(hb:∀i,mY (l.take i)<=4611686018427387904):R 141 [v] st fun x st'=>x=I (mY l)/\st'=st:=by
 refine bO ?_;rw[ahD];have hlen:=h.len l.length (by simp) (by omega) st;show us _ _;rw[hlen,af];show dn _ _ _;simp only[aK,aL];refine bM (fun fu vs s=>∃i,fu+i=l.length/\vs=[I (mY (l.take i)),v,I l.length,I i]/\s=st) ?_ (n:=l.length) ⟨0,rfl,rfl,rfl⟩;rintro fu vs s k ⟨i,hi,rfl,rfl⟩ next;simp only[aK,aL]
 by_cases hc:i<l.length
 ·have a1:aj .lss none false (I i) (I l.length) s= .ok (.bool true) s:=by rw[av,de,aBc (by omega)]
  have JH:=hb i;have GS:=hb (i+1);have AK:l.take (i+1)=l.take i++[l[i]]:=by rw[aBl hc]
  rw[AK,rW]at GS;have hlt:(l[i]).toNat<256:=(l[i]).toNat_lt
  have a2:aj .shl none true (I (mY (l.take i))) (.int .u64 8) s= .ok (I ((mY (l.take i)*2^8:Nat):Int)) s:=by
   have e:aj .shl none true (I (mY (l.take i))) (.int .u64 8) s= .ok (I (IntKind.i64.wrap ((mY (l.take i):Int)*2^8))) s:=rfl;rw[e,bD (by omega)];simp
  have a3:dB (.toInt .i64) (bN l[i]) s= .ok (I (l[i]).toNat) s:=D9 _ (by omega) _ _;have a4:aj .or none false (I ((mY (l.take i)*2^8:Nat):Int)) (I (l[i]).toNat) s= .ok (I ((mY (l.take i)*2^8+(l[i]).toNat:Nat):Int)) s:=Bn _ _ _ (by omega) (by omega) _ _ _;have a5:aj .add none true (I i) (.int .i64 1) s= .ok (I ((i+1:Nat):Int)) s:=by rw[av,cN,bD (by omega)];rfl
  simp only[a1,af,ag,aBr,a2];refine h.idx (by simpa using hc) _ ?_;have hg:(ai l)[i]'(by simpa using hc)=bN l[i]:=by simp[ai]
  rw[hg,a3,af,a4,af,a5,af];exact next (fu-1) _ _ (by omega) ⟨i+1,by omega,by rw[AK,rW],rfl⟩
 ·have a1:aj .lss none false (I i) (I l.length) s= .ok (.bool false) s:=by rw[av,de,aAW (by omega)]
  simp only[a1,af,ag,aAR,aBf];rw[aBa (by omega)];exact⟨rfl,trivial⟩
theorem Rw {b off len cap n:Nat}{L:List CV}{t:TypeId}{g:Bool}(hb:st.mem.get b=some (.cells L t g))(FH:b<st.next)(hL:off+len<=L.length)(hlen:len<=8)(hn:n<9223372036854775808):
 R 98 [.slice b off len cap 0,I n] st fun x st'=>Kp [b] st st'/\st'.next=st.next/\st'.mem.get b=some (.cells (bt L off (ai (be len n))) t g):=by
 refine bO ?_;rw[w98];simp only[db,ns,af,aK,aL]
 refine bM (fun fu vs s=>∃i,fu+i=len/\vs=[.slice b off len cap 0,I n,I len,I i]/\Kp [b] st s/\s.next=st.next/\s.mem.get b=some (.cells (bt L (off+len-i) (ai (be i n))) t g)) ?_ (n:=len) ⟨0,rfl,rfl,Kp.refl _ _,rfl,by
  have:ai (be 0 n)=[]:=rfl;rw[this,yS];exact hb⟩
 rintro fu vs s k ⟨i,hi,rfl,hk,HT,hg⟩ next;simp only[aK,aL]
 by_cases hc:i<len
 ·have a1:aj .lss none false (I i) (I len) s= .ok (.bool true) s:=by rw[av,de,aBc (by omega)]
  have a2:aj .sub none true (I len) (.int .i64 1) s= .ok (I ((len-1:Nat):Int)) s:=by rw[av,dJ,bD (by omega)];congr 2;omega
  have a3:aj .sub none false (I ((len-1:Nat):Int)) (I i) s= .ok (I ((len-1-i:Nat):Int)) s:=by rw[av,dJ,bD (by omega)];congr 2;omega
  have a4:aj .mul none true (.int .i64 8) (I i) s= .ok (I ((8*i:Nat):Int)) s:=by rw[av,jQ,bD (by omega)];rfl
  have a5:cU 1 (.slice b off len cap 0) (I ((len-1-i:Nat):Int)) s= .ok (.ptr b (off+(len-1-i)*1)) s:=gu (by omega) (.inl rfl) s;have a6:∀s,aj .add none true (I i) (.int .i64 1) s= .ok (I ((i+1:Nat):Int)) s:=fun s=>by rw[av,cN,bD (by omega)];rfl
  simp only[a1,af,ag,aBr,ns,a2,a3,a4,Cq _ _ (show i<8 by omega),M6,Db,a5,aH,hg,aS,a6];have e1:off+(len-1-i)*1=off+len-(i+1):=by omega
  have e2:off+len-i=off+len-(i+1)+1:=by omega
  have tk:(be i n).length=i:=gV i n
  have e3:bt (bt L (off+len-i) (ai (be i n))) (off+len-(i+1)) [bN (UInt8.ofNat (n/256^i%256))]=bt L (off+len-(i+1)) (ai (be (i+1) n)):=by
   rw[e2,Bo _ _ _ _ (by simp[tk];omega),yf];rfl
  have Sr:(bN (UInt8.ofNat (n/256^i%256))).cK=[bN (UInt8.ofNat (n/256^i%256))]:=rfl;rw[e1,Sr,e3];refine⟨⟨rfl,rfl,by rw[lX _ _ _ (by simp[tk];omega)];omega⟩,next (fu-1) _ _ (by omega) ⟨i+1,by omega,rfl,hk.set _ (.inl (by simp)) (by omega),HT,ao _ _ _⟩⟩
 ·have a1:aj .lss none false (I i) (I len) s= .ok (.bool false) s:=by rw[av,de,aAW (by omega)]
  simp only[a1,af,ag,aAR,aBf];have DQ:i=len:=by omega
  subst DQ;rw[aCc]at hg;exact⟨hk,HT,hg⟩
end
def eJ (n:Nat):Nat:=if n<=64 then 0 else (n+479)/480
theorem xY {st:St}{n:Nat}(hn:n<=4000000000):R 44 [I n] st fun v st'=>v=I (eJ n)/\st'=st:=by
 refine bO ?_;rw[w44];have e1:aj .leq none true (I n) (.int .i64 64) st= .ok (.bool (decide (n<=64))) st:=by rw[av,nt];congr 2;simp only[aBu];omega
 have e2:aj .add none true (I n) (.int .i64 480) st= .ok (I ((n+480:Nat):Int)) st:=by rw[av,cN,bD (by omega)];rfl
 have e3:aj .sub none true (I ((n+480:Nat):Int)) (.int .i64 1) st= .ok (I ((n+479:Nat):Int)) st:=by rw[av,dJ,bD (by omega)];congr 2;omega
 have e4:aj .quo none true (I ((n+479:Nat):Int)) (.int .i64 480) st= .ok (I (((n+479)/480:Nat):Int)) st:=by
  have e0:aj .quo none true (I ((n+479:Nat):Int)) (.int .i64 480) st= .ok (I (IntKind.i64.wrap (Int.tdiv ((n+479:Nat):Int) 480))) st:=rfl;have e1:Int.tdiv ((n+479:Nat):Int) 480=(((n+479)/480:Nat):Int):=rfl;rw[e0,e1,bD (by omega)]
 unfold eJ;simp only[e1,af,ag,e2,e3,e4]
 by_cases h:n<=64
 ·rw[aBc h,aBb rfl,aBb h];exact⟨rfl,trivial⟩
 ·rw[aAW h,aAZ (by decide),aAZ h];exact⟨rfl,trivial⟩
theorem oK.len {G:GM}{ps:List Nat}{page:Nat}{v:List UInt8}(h:oK G ps page v):ps.length=(v.length+479)/480:=by
 induction ps generalizing page v with
 |nil=>obtain⟨_,rfl⟩:=h;rfl
 |cons p ps ih=>
  obtain⟨_,h1,_,next,_,_,h5⟩:=h;have:=ih h5;rw[aBo]at this;have:0<v.length:=aDd.2 h1;rw[aBt];omega
section
variable {τ:Nat} {π:PI} {st st':St}
theorem Jd {f:CV}{c:da}(Inv:Nat->GM->List Nat->Nat->List UInt8->St->Prop)
 (hT:∀q G ps page v s,Inv q G ps page v s->Tg τ π s G/\oK G ps page v/\s.mem.get q=some (.cells (aQ c) 109 false)/\q<s.next)
 (hS:∀q G p ps v s next,Inv q G (p::ps) p v s->G.cont p= .dL next (v.take 480)->oK G ps next (v.drop 480)->∀s' b,Kp [] s s'->(∀X,(∀b∈X,b<s.next)->Sl s' X b 1 (ai (v.take 480++List.replicate (480-(v.take 480).length) 0)))->fD R f [I p,b] s' fun x TY=>x=I 0/\∃G',Inv q G' ps next (v.drop 480) TY)
 {G:GM} {ps:List Nat} {v:List UInt8} (h0:∀s1 q,Kp [] st s1->st.next<=q->q<s1.next->s1.mem.get q=some (.cells (aQ c) 109 false)->Inv q G ps c.dL v s1) (hl:ps.length=eJ c.size) (hsz:c.size<=8192):
 R 93 [.ptr τ 0, .agg (aQ c),f] st fun x st'=>x=I 0/\∃q G',st.next<=q/\Inv q G' [] 0 [] st':=by
 refine bO ?_;rw[w93];rw[cr,aU];refine⟨rfl, ?_⟩;have k1:Kp [] st (St.new st (.cells (aQ c) 109 false)):=(Kp.refl [] st).new _;have g1:(St.new st (.cells (aQ c) 109 false)).mem.get st.next=some (.cells (aQ c) 109 false):=aq _ _;have n1:(St.new st (.cells (aQ c) 109 false)).next=st.next+1:=rfl;generalize St.new st (.cells (aQ c) 109 false)=s1 at*;have i1:=h0 s1 st.next k1 (aAU _) (by omega) g1
 have FE:∀o x,(aQ c)[o]?=some x->∀s,s.mem.get st.next=some (.cells (aQ c) 109 false)->∀K:CV->Prop,fl o (.ptr st.next 0) s K=K x:=by
  intro o x hx s hs K;simp only[fl,ah,af,az,hs,ar,aAT,hx,au]
 rw[FE 2 (I c.dL) rfl s1 g1,db,FE 3 (I c.size) rfl s1 g1];refine(xY (n:=c.size) (by omega)).same ?_;simp only[aK,aL]
 have adl:ps.length<=1000000:=by
  rw[hl];unfold eJ;split<;>omega
 rw[<-hl];refine bM (fun fu vs s=>∃(G':GM) (i page:Nat) (pr:List Nat) (vr:List UInt8),fu+i=ps.length/\pr.length=fu/\vs=[.ptr τ 0,f, .ptr st.next 0,I page,I ps.length,I i]/\Inv st.next G' pr page vr s) ?_ (n:=ps.length) ⟨G,0,c.dL,ps,v,rfl,rfl,rfl,i1⟩;rintro fu vs s k ⟨G',i,page,pr,vr,hi,hpr,rfl,XD⟩ next;obtain⟨hT1,hC,hg,hlt⟩:=hT _ _ _ _ _ _ XD;simp only[aK,aL,dM,af,ag]
 by_cases hc:i<ps.length
 ·rw[aBc hc,aBb rfl]
  obtain⟨p,Y2,rfl⟩:∃p Y2,pr=p::Y2:=by
   cases pr with
   |nil=>simp at hpr;omega
   |cons p Y2=>exact⟨p,Y2,rfl⟩
  obtain⟨rfl,gT,hu,nx,zu,AP,hC2⟩:=hC;refine hT1.get' ?_;refine(NJ hT1.pg hu).mono ?_;rintro _ s4 ⟨k4,vq,b,rfl,g4,b1,b2⟩;rw[zu]at vq g4;have n4:=k4.next;have gq4:=(k4.keep st.next hlt (by simp)).trans hg;have e1:aj .eql (some .int) true (I 0) (.int .i64 1) s4= .ok (.bool false) s4:=rfl;have e2:aj .gtr none true (I c.size) (.int .i64 8192) s4= .ok (.bool false) s4:=by rw[av,dj,aAW (by omega)]
  have e3:aj .neq (some .int) true (I 0) (.int .i64 0) s4= .ok (.bool false) s4:=rfl;have hcz:(aQ c)[3]?=some (I c.size):=rfl;have Mc:(ai (il (.dL nx (vr.take 480)))).length=512:=by simpa using vq
  have kN:∀X,(∀b∈X,b<s.next)->Sl s4 X (.slice b 0 512 512 1) 1 (ai (il (.dL nx (vr.take 480)))):=fun X hX=> .inr ⟨b,0,512,512,1,rfl,by rw[Mc],⟨aAU _, .inr rfl⟩, .inr ⟨fun h=>by have:=hX b h;omega,b2,_,_,_,g4,by omega,by rw[aBx,aBa (by omega)]⟩⟩;obtain⟨Rn,p1,p2⟩:=(kN [] (by simp)).hi (n:=512) (by omega) (by rw[Mc]) (h:=4) (by omega) s4
  have AK:(ai (il (.dL nx (vr.take 480)))).take (4*1)=ai (be 4 nx):=by
   unfold il;rw[bH,aCm (by rw[bF,gV])]
  rw[AK]at p2;have p1':aN 1 (.slice b 0 512 512 1) none (some (.int .i64 4)) s4= .ok Rn s4:=p1;simp only[aD,aJ,af,e1,aG,aAR,aBf,aBk,iU,bh,ah,az,gq4,ar,aAT,hcz,au,e2,aF,ag,e3,p1'];refine(G9 p2 (by rw[gV];omega) (sU _ (by rw[gV];omega))).same ?_;rw[ux 4 nx (by have:nx<=2147483647:=AP;omega)];have afH:(vr.take 480).length<=480:=by rw[aBh];omega
  have Xo:((ai (il (.dL nx (vr.take 480)))).drop (4*1)).take ((484-4)*1)=ai (vr.take 480++List.replicate (480-(vr.take 480).length) 0):=by
   unfold il;rw[bH,aDn (by rw[bF,gV]),bH,aCM,aBa (by rw[bF];omega),bH]
   congr 1
   unfold ai;rw[<-aCE,List.take_replicate,aCa]
   congr 2;omega
  obtain⟨v19,p3,_⟩:=(kN [] (by simp)).both (n:=512) (by omega) (by rw[Mc]) (l:=4) (h:=484) (by omega) (by omega) s4;have p3':aN 1 (.slice b 0 512 512 1) (some (.int .i64 4)) (some (.int .i64 484)) s4= .ok v19 s4:=p3;rw[p3',af];refine rR (hS st.next G' page Y2 vr s nx XD zu hC2 s4 v19 k4 fun X hX=> ?_) ?_
  ·obtain⟨ate,q3,q4⟩:=(kN X hX).both (n:=512) (by omega) (by rw[Mc]) (l:=4) (h:=484) (by omega) (by omega) s4;rw[p3]at q3;cases q3;rw[Xo]at q4;exact q4
  ·rintro _ s6 ⟨rfl,G2,ur⟩;have e4:aj .neq (some .int) true (I 0) (.int .i64 0) s6= .ok (.bool false) s6:=rfl;rw[e4,af,ag,aAZ (by decide),ik i (by omega),af];exact next (fu-1) _ _ (by omega) ⟨G2,i+1,nx,Y2,_,by omega,by simp at hpr;omega,rfl,ur⟩
 ·rw[aAW hc,aAZ (by decide)];have:pr=[]:=aBn.1 (by omega);subst this;obtain⟨rfl,rfl⟩:=hC;have e5:aj .neq (some .int) true (I ((0:Nat):Int)) (.int .i64 0) s= .ok (.bool false) s:=rfl;rw[e5,af,ag,aAZ (by decide)];exact⟨trivial,st.next,G',aAU _,XD⟩
end
section
variable {τ:Nat} {π:PI} {st st':St} {G:GM}
theorem Tg.vo (h:Tg τ π st G){X:List Nat}(hk:Kp X st st')(hx:∀b∈X,b∉π.all/\b≠τ):Tg τ π st' G:=by
 obtain⟨ty,g,hg⟩:=h.get;exact⟨h.pg.keep hk fun b hb hh=>(hx b hh).1 hb,aBs h.lt hk.next,h.not,⟨ty,g,(hk.keep τ h.lt fun hh=>(hx τ hh).2 rfl).trans hg⟩,hk.fresh h.fr⟩
structure YI (τ:Nat)(π:PI)(st:St)(G:GM)(c:da)(bx:Nat)(ail:List UInt8)(q:Nat)(ps:List Nat)(page:Nat)(v:List UInt8)(s:St)(x:CV)(F:List Nat)(taken pad:List UInt8):Prop where
 tg:Tg τ π s G
 chain:oK G ps page v
 box:s.mem.get q=some (.cells (aQ c) 109 false)
 lt:q<s.next
 ne:q≠bx
 gbx:s.mem.get bx=some (.cells [x] 93 false)
 bl:bx<s.next
 own:Own s x 1 5 (ai (taken++pad)) F
 F:∀b∈F,bx<b/\b<s.next/\b≠q
 tot:ail=taken++v
 aiM:v≠[]->pad=[]
 atC:pad.length<=480
 kp:Kp [] st s
theorem DY (h:Tg τ π st G){c:da}{v:List UInt8}{ps:List Nat}(hc:c.ok true)(hv:zV G c v ps):R 53 [.ptr τ 0, .agg (aQ c)] st fun x st'=>x= .tuple [.str v,I 0]/\Kp [] st st':=by
 refine bO ?_;rw[w53];rw[cr,aU];refine⟨rfl, ?_⟩;have k1:Kp [] st (St.new st (.cells (aQ c) 109 false)):=(Kp.refl [] st).new _;have g1:(St.new st (.cells (aQ c) 109 false)).mem.get st.next=some (.cells (aQ c) 109 false):=aq _ _;have n1:(St.new st (.cells (aQ c) 109 false)).next=st.next+1:=rfl;generalize St.new st (.cells (aQ c) 109 false)=s1 at*
 have FE:∀o x,(aQ c)[o]?=some x->∀s,s.mem.get st.next=some (.cells (aQ c) 109 false)->∀K:CV->Prop,fl o (.ptr st.next 0) s K=K x:=by
  intro o x hx s hs K;simp only[fl,ah,af,az,hs,ar,aAT,hx,au]
 rw[FE 2 (I c.dL) rfl s1 g1,FE 1 (.str c.value) rfl s1 g1];rcases hv with⟨h0,rfl,rfl⟩|⟨h0,hsz,wy,GO,hC⟩
 ·have e1:aj .eql (some .int) true (I c.dL) (.int .i64 0) s1= .ok (.bool true) s1:=by rw[h0];rfl
  rw[e1,af,ag,aBb rfl];exact⟨rfl,k1⟩
 ·have e1:aj .eql (some .int) true (I c.dL) (.int .i64 0) s1= .ok (.bool false) s1:=by rw[av,cB,aAW (by omega)]
  rw[e1,af,ag,aAZ (by decide),cM,aT];have k2:Kp [] s1 (St.new s1 (.cells [.ae] 93 false)):=(Kp.refl [] s1).new _;have g2:(St.new s1 (.cells [.ae] 93 false)).mem.get s1.next=some (.cells [.ae] 93 false):=aq _ _;have n2:(St.new s1 (.cells [.ae] 93 false)).next=s1.next+1:=rfl;generalize St.new s1 (.cells [.ae] 93 false)=s2 at*;have sH:=(k2.keep st.next (by omega) (by simp)).trans g1;have mV:Kp [] st s2:=k1.trans k2 (by simp);have t2:=h.still mV;rw[aO (n:=4) sH rfl,af,lW,af];refine(Jd (st:=s2) (τ:=τ) (π:=π) (c:=c) (G:=G) (ps:=ps) (v:=v) (fun q G' ps page v' s=>G'=G/\∃x F taken pad,YI τ π st G c s1.next v q ps page v' s x F taken pad/\st.next<q/\s.mem.get st.next=some (.cells (aQ c) 109 false)) ?_ ?_ ?_ ?_ ?_).mono ?_
  ·rintro q G' ps page v' s ⟨rfl,x,F,taken,pad,hI,_⟩;exact⟨hI.tg,hI.chain,hI.box,hI.lt⟩
  ·rintro q G' p nX v' s nx ⟨rfl,x,F,taken,pad,hI,hq,hst⟩ zu hC2 s' b hk kN;have aky:v'≠[]:=by obtain⟨_,h,_⟩:=hI.chain;exact h
   have akE:=hI.aiM aky;subst akE;have hns:=hk.next;rw[dQ];simp only[aBw,aBR];refine bO ?_;rw[aic];have gbx:=(hk.keep _ hI.bl (by simp)).trans hI.gbx;have V1:=hI.own.keep hk fun b hb=>⟨(hI.F b hb).2.1,by simp⟩;obtain⟨m,q1,q2⟩:=(kN [] (by simp)).src [(.int .u8 0)]
   have GP:(v'.take 480++List.replicate (480-(v'.take 480).length) 0).length=480:=by
    have:(v'.take 480).length<=480:=by rw[aBh];omega
    rw[aAY,aBz];omega
   have hm:m=480:=by rw[bF,GP]at q1;omega
   subst hm;have htl:taken.length<=8192:=by have:=congrArg List.length hI.tot;rw[aAY]at this;omega
   obtain⟨x',TY,F',a1,a2,a3,a4⟩:=V1.append (n:=480) (bytes:=1) (T:=ai (v'.take 480++List.replicate (480-(v'.take 480).length) 0)) (by omega) (by rw[bF,GP]) (bE _) (fun b hb=>by have:=(hI.F b hb).2.1;omega) (by rw[bF,bF,GP,aAY];simp;omega);have amB:s1.next∉F:=fun h=>by have:=(hI.F _ h).1;omega
   have anE:=(a3.keep _ (by have:=hI.bl;omega) amB).trans gbx;obtain⟨o1,o2⟩:=a2.cq;have kg:bt [x] 0 [x']=[x']:=rfl;simp only[az,gbx,ar,aAQ,au,q2,a1,aT,aH,anE,aS,o2,kg];refine⟨⟨rfl,by simp[o1],by simp⟩,trivial,G',rfl,x',F',taken++v'.take 480,List.replicate (480-(v'.take 480).length) 0, ?_,hq, ?_⟩
   ·have qN:∀b∈F',(b∈F\/s'.next<=b)/\b<TY.next:=fun b hb=>⟨(a4 b hb).1.imp id fun h=>by omega,(a4 b hb).2⟩;have avA:=a3.next;have Xx:Kp [] st TY:=(hI.kp.trans hk (by simp)).trans a3 fun b hb=> .inr (by have:=(hI.F b hb).1;omega);have fP:∀b,st.next<=b->b∉π.all/\b≠τ:=fun b hb=>⟨fun hh=>by have:=h.pg.lt b hh;omega,fun e=>by have:=h.lt;omega⟩;have Dc:Kp [s1.next] TY (St.set TY s1.next (.cells [x'] 93 false)):=(Kp.refl _ TY).set _ (.inl (by simp)) (by have:=hI.bl;omega);refine⟨?_,hC2, ?_,by have:=hI.lt;simp;omega,hI.ne,ao _ _ _,by have:=hI.bl;simp;omega, ?_,fun b hb=> ?_, ?_, ?_, ?_, ?_⟩
    ·exact(((hI.tg.still hk).vo a3 fun b hb=>fP b (by have:=(hI.F b hb).1;omega)).vo Dc fun b hb=>fP b (by simp at hb;omega))
    ·rw[ak _ _ _ _ hI.ne,a3.keep q (by have:=hI.lt;omega) (fun h=>(hI.F q h).2.2 rfl),hk.keep q hI.lt (by simp)];exact hI.box
    ·have e:ai (taken++v'.take 480++List.replicate (480-(v'.take 480).length) 0)=ai (taken++[])++ai (v'.take 480++List.replicate (480-(v'.take 480).length) 0):=by
      rw[<-bH];simp
     rw[e]
     exact a2.mono fun b hb=>ak _ _ _ _ fun e=>by
      rcases(qN b hb).1 with h|h
      ·have:=(hI.F b h).1;omega
      ·have:=hI.bl;omega
    ·refine⟨?_,(qN b hb).2, ?_⟩
     ·rcases(qN b hb).1 with h|h
      ·exact(hI.F b h).1
      ·have:=hI.bl;omega
     ·rcases(qN b hb).1 with h|h
      ·exact(hI.F b h).2.2
      ·have:=hI.lt;omega
    ·rw[aBE,aBK];exact hI.tot
    ·intro gT
     have:480<v'.length:=by
      rcases aCn 480 v'.length with h|h
      ·exact h
      ·exact absurd (aBC h) gT
     rw[aBh,aBH (by omega)];rfl
    ·rw[aBz];omega
    ·exact Xx.set _ (.inr (by omega)) (by have:=hI.bl;omega)
   ·have h3:st.next<s.next:=by have:=hI.bl;omega
    rw[ak _ _ _ _ (by omega),a3.keep st.next (by omega) (fun h=>by have:=(hI.F _ h).1;omega),hk.keep st.next h3 (by simp)];exact hst
  ·intro s3 q k3 Zq HV hq3;refine⟨rfl, .ae,[],[],[],⟨t2.still k3,hC,hq3,HV,by omega,(k3.keep _ (by omega) (by simp)).trans g2,by have:=k3.next;omega, .inl ⟨rfl,rfl,rfl⟩,by simp,by simp,fun _=>rfl,by simp,mV.trans k3 (by simp)⟩,by omega,(k3.keep _ (by omega) (by simp)).trans sH⟩
  ·rw[hC.len,hsz];unfold eJ;rw[aAZ (by omega)]
  ·omega
  ·rintro _ s3 ⟨rfl,q,G',hq,rfl,x,F,taken,pad,hI,HV,hst⟩;have Sp:=hI.tot;rw[aBQ]at Sp;have kN:Sl s3 [] x 1 (ai (taken++pad)):=hI.own.sl fun b hb=>⟨by simp,(hI.F b hb).2.1⟩;have e2:aj .neq (some .int) true (I 0) (.int .i64 0) s3= .ok (.bool false) s3:=rfl;have hlen:=kN.len (taken++pad).length (by simp) (by omega) s3;have e3:aj .lss none false (I (taken++pad).length) (I c.size) s3= .ok (.bool false) s3:=by rw[dM,aAW (by rw[hsz,Sp,aAY];omega)]
   obtain⟨v',p1,p2⟩:=kN.hi (n:=(taken++pad).length) (by omega) (by simp) (h:=c.size) (by rw[hsz,Sp,aAY];omega) s3
   have AK:(ai (taken++pad)).take (c.size*1)=ai v:=by
    rw[bH,aCF,hsz,Sp,aCm (by simp)]
   rw[AK]at p2
   have alY:∀K:CV->Prop,iU (some true) 3 (.ptr st.next 0) s3 K=K (I c.size):=fun K=>by
    simp only[iU,bh];exact FE 3 (I c.size) rfl s3 hst K
   simp only[e2,af,aG,aAR,aBf,aBk,bh,az,hI.gbx,ar,aAQ,au,hlen,alY,e3,aF,ag,FE 3 (I c.size) rfl s3 hst,p1,p2.str];exact⟨trivial,hI.kp⟩
end
def fV (G:GM)(ps:List Nat):GM:=ps.foldl GM.drop G
structure Vt (G:GM)(ps:List Nat):Prop where
 ok:tP (fV G ps)
 bL:∀q,(fV G ps).bL q↔G.bL q/\q∉ps
 free:(fV G ps).ck=G.ck+ps.length
 cont:∀q,(fV G ps).cont q=G.cont q
 root:(fV G ps).root=G.root
 aE:(fV G ps).aE=G.aE
theorem Vi {G:GM}(h:tP G){ps:List Nat}(hn:ps.Nodup)(hu:∀p∈ps,G.bL p):Vt G ps:=by
 induction ps generalizing G with
 |nil=>exact⟨h,fun q=>by simp[fV],rfl,fun _=>rfl,rfl,rfl⟩
 |cons p ps ih=>
  rw[aBi]at hn;have hd:=sM h (hu p (by simp));have:=ih hd.ok hn.2 fun q hq=>(hd.bL q).2 ⟨hu q (by simp[hq]),fun e=>hn.1 (e▸hq)⟩;have e:fV G (p::ps)=fV (G.drop p) ps:=rfl;refine⟨by rw[e];exact this.ok,fun q=> ?_, ?_,fun q=>by rw[e,this.cont];rfl,by rw[e,this.root];rfl,by rw[e,this.aE];rfl⟩
  ·rw[e,this.bL,hd.bL];simp only[aAX,aCr];constructor
   ·rintro⟨⟨a,b⟩,c⟩;exact⟨a,b,c⟩
   ·rintro⟨a,b,c⟩;exact⟨⟨a,b⟩,c⟩
  ·rw[e,this.free,hd.free,aBt];omega
theorem F7 (G:GM)(ps:List Nat)(p:Nat):fV G (ps++[p])=(fV G ps).drop p:=by unfold fV;rw[aDB];rfl
section
variable {τ:Nat} {π:PI} {st st':St} {G:GM}
theorem BJ (h:Tg τ π st G){c:da}{v:List UInt8}{ps:List Nat}(hc:c.ok true)(hv:zV G c v ps)(iL:ps.Nodup):R 46 [.ptr τ 0, .agg (aQ c)] st fun x st'=>x=I 0/\Kp π.W st st'/\Tg τ π st' (fV G ps):=by
 refine bO ?_;rw[w46];rw[cr,El];refine⟨rfl, ?_⟩;have k1:Kp [] st (St.new st (.cells [.ptr τ 0] 27 false)):=(Kp.refl [] st).new _;have g1:(St.new st (.cells [.ptr τ 0] 27 false)).mem.get st.next=some (.cells [.ptr τ 0] 27 false):=aq _ _;have n1:(St.new st (.cells [.ptr τ 0] 27 false)).next=st.next+1:=rfl;generalize St.new st (.cells [.ptr τ 0] 27 false)=s1 at*;rw[cr,aU];refine⟨rfl, ?_⟩;have k2:Kp [] s1 (St.new s1 (.cells (aQ c) 109 false)):=(Kp.refl [] s1).new _;have g2:(St.new s1 (.cells (aQ c) 109 false)).mem.get s1.next=some (.cells (aQ c) 109 false):=aq _ _;have n2:(St.new s1 (.cells (aQ c) 109 false)).next=s1.next+1:=rfl;generalize St.new s1 (.cells (aQ c) 109 false)=s2 at*;have sH:=(k2.keep st.next (by omega) (by simp)).trans g1;have mV:Kp [] st s2:=k1.trans k2 (by simp);have t2:=h.still mV;have oF:(aQ c)[2]?=some (I c.dL):=rfl;simp only[fl,ah,af,az,g2,ar,aAT,oF,au];rcases hv with⟨h0,rfl,rfl⟩|⟨h0,hsz,wy,GO,hC⟩
 ·have e1:aj .eql (some .int) true (I c.dL) (.int .i64 0) s2= .ok (.bool true) s2:=by rw[h0];rfl
  rw[e1,af,ag,aBb rfl];exact⟨trivial,mV.mono (by simp),t2⟩
 ·have e1:aj .eql (some .int) true (I c.dL) (.int .i64 0) s2= .ok (.bool false) s2:=by rw[av,cB,aAW (by omega)]
  simp only[e1,af,ag,aAR,aBf,sH,ar,aAQ,au];rw[aO (n:=4) g2 rfl,af,lW,af];have mu:=h.LR;have WD:st.next∉π.W:=fun hh=>by have:=mu _ hh;omega
  refine(Jd (st:=s2) (τ:=τ) (π:=π) (c:=c) (G:=G) (ps:=ps) (v:=v) (fun q G' pr page v' s=>∃done,G'=fV G done/\ps=done++pr/\Tg τ π s G'/\oK G' pr page v'/\s.mem.get q=some (.cells (aQ c) 109 false)/\q<s.next/\st.next<=q/\s.mem.get st.next=some (.cells [.ptr τ 0] 27 false)/\Kp π.W st s) ?_ ?_ ?_ ?_ ?_).mono ?_
  ·rintro q G' pr page v' s ⟨done,_,_,a,b,c,d,_⟩;exact⟨a,b,c,d⟩
  ·rintro q G' p pr v' s nx ⟨done,rfl,e2,a1,a2,a3,a4,a5,a6,a7⟩ zu hC2 s' b hk kN;rw[dQ];simp only[aBw,aBR];refine bO ?_;rw[w94]
   have hst:st.next<s.next:=by
    have:=a7.next;rcases aCn st.next s.next with h1|h1
    ·exact h1
    ·omega
   have g6:=(hk.keep st.next hst (by simp)).trans a6;have t':=a1.still hk;rw[az,g6,ar,aAQ,au];refine t'.get' ?_;have hup:(fV G done).bL p:=by obtain⟨_,_,hu,_⟩:=a2;exact hu
   refine(CA t'.pg hup).mono ?_;rintro _ TY ⟨rfl,k'',p''⟩;have HT:=hk.next;have hnW:∀x,st.next<=x->x∉π.W:=fun x hx hh=>by have:=mu x hh;omega
   refine⟨rfl,_,done++[p],(F7 _ _ _).symm,by rw[e2];simp,t'.of k'' p'', ?_,(k''.keep q (by omega) (hnW q a5)).trans ((hk.keep q a4 (by simp)).trans a3),by have:=k''.next;omega,a5,(k''.keep st.next (by omega) WD).trans g6,(a7.trans hk (by simp)).trans k'' fun x hx=> .inl hx⟩
   have QJ:p∉pr:=by
    rw[e2]at iL;have:=(aBP.1 iL).2.1;exact(aBi.1 this).1
   exact hC2.kept fun x hx=>⟨fun hu=>((sM a1.pg.Vd hup).bL x).2 ⟨hu,fun e=>QJ (e▸hx)⟩,rfl⟩
  ·intro s3 q k3 Zq HV hq3;refine⟨[],rfl,rfl,t2.still k3,hC,hq3,HV,by omega,(k3.keep _ (by omega) (by simp)).trans sH,(mV.mono (by simp)).trans k3 (by simp)⟩
  ·rw[hC.len,hsz];unfold eJ;rw[aAZ (by omega)]
  ·omega
  ·rintro _ s3 ⟨rfl,q,G',_,done,rfl,e2,a1,_,_,_,_,_,a7⟩;rw[aBQ]at e2;subst e2;exact⟨rfl,a7,a1⟩
theorem yO {n:Nat}(hn:n<=100000)(s:St):pk 5 1 [.int .u8 0] (I n) (I n) s= .ok (.slice s.next 0 n n 0) (St.new s (.cells (ai (List.replicate n 0)) 5 false)):=by
 have e:pk 5 1 [.int .u8 0] (I n) (I n) s=bC (Bool.and (Nat.ble n n) (Bool.and (Nat.ble (Nat.mul 1 n) 281474976710656) (Nat.ble n 9223372036854775807)))
  (.ok (.slice s.next 0 n n 0) ⟨s.mem.put s.next (some (.cells (cO n [.int .u8 0]) 5 false)),s.next+1⟩) .bad:=rfl
 have e1:Nat.mul 1 n=n:=aDa n;rw[e,Mm,aM,aBb (by simp only[aBp,aBy,e1];omega)];rfl
theorem EN {b off n cap:Nat}{d:List UInt8}{L:List CV}{t:TypeId}{g:Bool}{s:St}(hb:s.mem.get b=some (.cells L t g))(hn:d.length<=n)(hl:off+d.length<=L.length):
 ∃s',gC true 1 (.slice b off n cap 0) (.str d) s= .ok (I d.length) s'/\s'.next=s.next/\s'.mem.get b=some (.cells (bt L off (ai d)) t g)/\∀q,q≠b->s'.mem.get q=s.mem.get q:=by
 have e:gC true 1 (.slice b off n cap 0) (.str d) s=(match cellsOf true 1 (min d.length n) (.str d) s with
  |some t=>bC (Nat.beq (min d.length n) 0) (ya .i64 s 0)
   (bC (Bool.and (aX t) (Bool.or (Nat.beq 0 0) (Nat.ble 1 cap)))
    (match s.mem.get b with
    |some (.cells l ty g)=>Option.rec (Option.rec .bad (fun s'=>ya .i64 ⟨s.mem.put b (some (.cells s' ty g)),s.next⟩ (min d.length n)) (AQ l off t (off+cap*0))) (fun s'=>ya .i64 ⟨s.mem.put b (some (.cells s' ty g)),s.next⟩ (min d.length n)) (dR l off t)
    |_=> .bad) .bad)
  |none=> .bad):=rfl
 have ec:cellsOf true 1 d.length (.str d) s=some (ai d):=by
  have:cellsOf true 1 d.length (.str d) s=if d.length<=d.length then some ((d.take d.length).map bN)else none:=rfl
  rw[this,aBb (aAU _),List.take_length];rfl
 rw[e,aBH hn,ec];dsimp only
 by_cases h0:d.length=0
 ·have:d=[]:=aBn.1 h0;subst this;refine⟨s,rfl,rfl, ?_,fun _ _=>rfl⟩;rw[hb];have:bt L off (ai [])=L:=yS L off;rw[this]
 ·have FI:Nat.beq d.length 0=false:=by cases h:Nat.beq d.length 0 with|false=>rfl|true=>rw[aBB]at h;omega
  have e3:dR L off (ai d)=some (bt L off (ai d)):=by unfold dR;rw[aBb (by rw[bF];exact hl)];rfl
  rw[FI,bE,hb];dsimp only;rw[e3];exact⟨St.set s b (.cells (bt L off (ai d)) t g),rfl,rfl,ao _ _ _,fun q hq=>ak _ _ _ _ hq⟩
theorem Wh (h:Tg τ π st G){x1 x8 pv:Nat}{d:List UInt8}{ty:TypeId}{g:Bool}(hf:0<G.ck)(h1:st.mem.get x1=some (.cells [.ptr τ 0] ty g))(h8:st.mem.get x8=some (.cells [I pv] 3 false))(l1:x1<st.next)(l8:x8<st.next)(w1:x1∉π.all)(w8:x8∉π.all)(hτ:x8≠τ)(gT:x1≠x8)(hd:d.length<=480)(AP:pv<=qf):
 R 96 [.str d, .ptr x1 0, .ptr x8 0] st fun x st'=>x=I 0/\Kp (x8::π.W) st st'/\Tg τ π st' (G.alloc.put G.dG (.dL pv d))/\st'.mem.get x8=some (.cells [I G.dG] 3 false):=by
 refine bO ?_;rw[w96];rw[az,h1,ar,aAQ,au];refine h.get' ?_;refine(I3 h.pg hf).mono ?_;rintro _ s1 ⟨rfl,k1,p1⟩;have t1:=h.of k1 p1;have ha:=qu h.pg.Vd hf;have nW1:x1∉π.W:=fun hh=>w1 (PI.BW hh);have nW8:x8∉π.W:=fun hh=>w8 (PI.BW hh);have g1:=(k1.keep x1 l1 nW1).trans h1;have g8:=(k1.keep x8 l8 nW8).trans h8;have n1:=k1.next;have e1:aj .neq (some .int) true (I 0) (.int .i64 0) s1= .ok (.bool false) s1:=rfl;have emk:=yO (n:=512) (by omega) s1;have Yt:pk 5 1 [.int .u8 0] (.int .i64 512) (.int .i64 512) s1= .ok (.slice s1.next 0 512 512 0) (St.new s1 (.cells (ai (List.replicate 512 0)) 5 false)):=emk;simp only[aD,aJ,af,e1,ag,aAR,aBf,Yt,aT,bG];have k2:Kp [] s1 (St.new s1 (.cells (ai (List.replicate 512 0)) 5 false)):=(Kp.refl [] s1).new _;have gb:(St.new s1 (.cells (ai (List.replicate 512 0)) 5 false)).mem.get s1.next=some (.cells (ai (List.replicate 512 0)) 5 false):=aq _ _;have n2:(St.new s1 (.cells (ai (List.replicate 512 0)) 5 false)).next=s1.next+1:=rfl;generalize St.new s1 (.cells (ai (List.replicate 512 0)) 5 false)=s2 at*;have ZO:=(k2.keep x8 (by omega) (by simp)).trans g8;have sH:=(k2.keep x1 (by omega) (by simp)).trans g1;have t2:=t1.still k2;have esl:aN 1 (.slice s1.next 0 512 512 0) none (some (.int .i64 4)) s2= .ok (.slice s1.next 0 4 512 0) s2:=rfl;simp only[esl,af,az,ZO,ar,aAQ,au];refine(Rw (b:=s1.next) (off:=0) (len:=4) (cap:=512) (n:=pv) gb (by omega) (by simp) (by omega) (by have:pv<=2147483647:=AP;omega)).mono ?_;rintro _ s3 ⟨k3,n3,g3⟩
 have pC:bt (ai (List.replicate 512 0)) 0 (ai (be 4 pv))=ai (be 4 pv)++ai (List.replicate 508 0):=by
  unfold bt;rw[aCI,aBw,bF,gV]
  congr 1
 rw[pC]at g3;have aol:aN 1 (.slice s1.next 0 512 512 0) (some (.int .i64 4)) none s3= .ok (.slice s1.next 4 508 508 0) s3:=rfl;have JB:(ai (be 4 pv)++ai (List.replicate 508 0)).length=512:=by rw[aAY,bF,bF,gV,aBz]
 obtain⟨s4,c1,c2,c3,c4⟩:=EN (b:=s1.next) (off:=4) (n:=508) (cap:=508) (d:=d) g3 (by omega) (by omega)
 have jR:bt (ai (be 4 pv)++ai (List.replicate 508 0)) 4 (ai d)=ai (il (.dL pv d)):=by
  have e:=pq (ai (be 4 pv)) (ai (List.replicate 508 0)) (ai d);rw[bF,gV]at e;rw[e];unfold il;rw[bH,bH]
  congr 2
  unfold ai;rw[<-aCt,aDc,aCa]
 rw[jR]at c3;have g83:s3.mem.get x8=some (.cells [I pv] 3 false):=(k3.keep x8 (by omega) (by simp;omega)).trans ZO;have g84:s4.mem.get x8=some (.cells [I pv] 3 false):=(c4 x8 (by omega)).trans g83;have JL:s4.mem.get x1=some (.cells [.ptr τ 0] ty g):=(c4 x1 (by omega)).trans ((k3.keep x1 (by omega) (by simp;omega)).trans sH);have De:bt [I pv] 0 [I G.dG]=[I G.dG]:=rfl;simp only[ZO,ar,aAQ,au,aCV,aol,af,c1,aT,aH,g84,aS,iF,De];refine⟨⟨rfl,rfl,by simp⟩, ?_⟩;have k4:Kp [s1.next] s3 s4:=⟨by omega,fun q hq hn=>c4 q (by simpa using hn),fun jy q hq=>by rw[c4 q (by omega)];exact jy q (by omega)⟩;have k5:Kp [x8] s4 (St.set s4 x8 (.cells [I G.dG] 3 false)):=(Kp.refl _ s4).set _ (.inl (by simp)) (by omega);have g85:(St.set s4 x8 (.cells [I G.dG] 3 false)).mem.get x8=some (.cells [I G.dG] 3 false):=ao _ _ _;have g15:(St.set s4 x8 (.cells [I G.dG] 3 false)).mem.get x1=some (.cells [.ptr τ 0] ty g):=(ak _ _ _ _ gT).trans JL;have gb5:(St.set s4 x8 (.cells [I G.dG] 3 false)).mem.get s1.next=some (.cells (ai (il (.dL pv d))) 5 false):=(ak _ _ _ _ (by omega)).trans c3;have n5:(St.set s4 x8 (.cells [I G.dG] 3 false)).next=s3.next:=c2;generalize St.set s4 x8 (.cells [I G.dG] 3 false)=s5 at*;have fP:s1.next∉π.all/\s1.next≠τ:=⟨fun hh=>by have:=h.pg.lt _ hh;omega,fun e=>by have:=h.lt;omega⟩;have QD:Kp [s1.next,x8] s2 s5:=((k3.mono (by simp)).trans k4 (by simp)).trans k5 (by simp)
 have t5:=t2.vo QD fun b hb=>by
  simp at hb;rcases hb with rfl|rfl
  ·exact fP
  ·exact⟨w8,hτ⟩
 simp only[az,g15,ar,aAQ,au];refine t5.get' ?_;have ali:s1.next<s5.next:=by omega
 have vq:=Hi (nx:=pv) (d:=d) (by omega)
 have kN:Sl s5 [π.bn,π.bc] (.slice s1.next 0 512 512 0) 1 (ai (il (.dL pv d))):= .inr ⟨s1.next,0,512,512,0,rfl,by rw[bF,vq],⟨aAU _, .inl rfl⟩, .inr ⟨fun hh=>by
  have:s1.next∈π.W:=by unfold PI.W;simp at hh;rcases hh with h|h<;>simp[h]
  exact fP.1 (PI.BW this),ali,_,_,_,gb5,by rw[bF,vq];omega,by rw[aBx,aBa (by rw[bF,vq];omega)]⟩⟩
 refine(I2 t5.pg ((ha.bL _).2 (.inr rfl)) kN vq).mono ?_;rintro _ s6 ⟨rfl,k6,p6⟩;have nQ:Kp [s1.next,x8] s1 s5:=(k2.mono (by simp)).trans QD (by simp);refine⟨rfl, ?_,t5.of k6 p6,(k6.keep x8 (by omega) nW8).trans g85⟩;refine((k1.mono (by intro q hq;simp[hq])).trans nQ (by intro q hq;simp at hq;rcases hq with rfl|rfl;right;omega;left;simp)).trans k6 (by intro q hq;simp[hq])
end
