import Derived.Test.YtomffjeofpafnaaGreatDoorPagC
namespace Lim
open Go
noncomputable section
set_option maxRecDepth 100000
structure Tg (τ:Nat)(π:PI)(st:St)(G:GM):Prop where
 pg:Pg π st G
 lt:τ<st.next
 not:τ∉π.all
 get:∃ty g,st.mem.get τ=some (.cells [.ptr π.p 0] ty g)
 fr:cY st
section
variable {τ:Nat} {π:PI} {st st':St} {G:GM}
theorem PI.Bw {b:Nat}(h:b∈π.W):b∈π.all:=by unfold PI.W at h;unfold PI.all;simp at h⊢;rcases h with h|h|h|h<;>simp[h]
theorem Tg.still (h:Tg τ π st G)(hk:Kp [] st st'):Tg τ π st' G:=by
 obtain⟨ty,g,hg⟩:=h.get;exact⟨h.pg.still hk,aAZ h.lt hk.next,h.not,⟨ty,g,(hk.keep τ h.lt (by simp)).trans hg⟩,hk.fresh h.fr⟩
theorem Tg.of (h:Tg τ π st G){G':GM}(hk:Kp π.W st st')(hp:Pg π st' G'):Tg τ π st' G':=by
 obtain⟨ty,g,hg⟩:=h.get;exact⟨hp,aAZ h.lt hk.next,h.not,⟨ty,g,(hk.keep τ h.lt fun hh=>h.not (PI.Bw hh)).trans hg⟩,hk.fresh h.fr⟩
theorem Tg.get' (h:Tg τ π st G){k:CV->Prop}(hk:k (.ptr π.p 0)):fm 0 (.ptr τ 0) st k:=by
 obtain⟨ty,g,hg⟩:=h.get;simp only[fm,br,ah,af,aA,hg,aq,aAF,aAy,av];exact hk
theorem Tg.PY (h:Tg τ π st G):∀b∈π.W,b<st.next:=h.pg.PY
theorem xQ (h:Tg τ π st G){page:Nat}{n:bg}(hn:mL G page n):R 90 [.ptr τ 0,I page] st (vE n st):=by
 refine bN ?_;rw[w90];have k1:Kp [] st (St.new st (.cells [.bool false, .ae, .ae] 105 false)):=(Kp.refl [] st).new _;have g1:(St.new st (.cells [.bool false, .ae, .ae] 105 false)).mem.get st.next=some (.cells [.bool false, .ae, .ae] 105 false):=au _ _;have n1:(St.new st (.cells [.bool false, .ae, .ae] 105 false)).next=st.next+1:=rfl;rw[cG,aS];generalize St.new st (.cells [.bool false, .ae, .ae] 105 false)=s1 at*;have h1:=h.still k1;refine h1.get' ?_;refine(MK h1.pg hn.bP).mono ?_;rintro _ s2 ⟨k2,hl,b,rfl,g2,b1,b2⟩;rw[hn.cont]at hl g2;have n2:=k2.next;have e1:aj .eql (some .int) true (I 0) (.int .i64 1) s2= .ok (.bool false) s2:=rfl;have e2:aj .neq (some .int) true (I 0) (.int .i64 0) s2= .ok (.bool false) s2:=rfl;simp only[aD,aN,af,cN,e1,ag,aAz,aAO,aJ,aK,e2];have LG:(ai (ik (.node n))).length=512:=by simpa using hl
 have kL:Sl s2 [] (.slice b 0 512 512 1) 1 (ai (ma n++List.replicate (512-n.size) 0)):= .inr ⟨b,0,512,512,1,rfl,(show(ai (ik (.node n))).length=512*1 by rw[LG]),⟨aAE _, .inr rfl⟩, .inr ⟨by simp,b2,_,_,_,g2,by omega,by rw[aBg,aAK (by omega)];rfl⟩⟩;have kH:Kp [] st s2:=k1.trans k2 (by simp);have hs:=hn.size;refine(KV (kH.fresh h.fr) kL hn.ok (by omega)).mono ?_;rintro _ s5 ⟨x,rfl,k5,hx⟩;have n5:=k5.next;obtain⟨vc,vk,rfl,c1,c2⟩:=hx [st.next] (by simp;omega);obtain⟨x1,x2,x3⟩:=c1.bG;obtain⟨y1,y2,y3⟩:=c2.bG;simp only[aD,aN,af];refine tn rfl rfl (by simp[x2,y2]) ?_;have k7:Kp [] s5 (St.new s5 (.cells [.bool n.leaf,vc,vk] 105 false)):=(Kp.refl _ s5).new _;have g7:(St.new s5 (.cells [.bool n.leaf,vc,vk] 105 false)).mem.get s5.next=some (.cells [.bool n.leaf,vc,vk] 105 false):=au _ _;have n7:(St.new s5 (.cells [.bool n.leaf,vc,vk] 105 false)).next=s5.next+1:=rfl;generalize St.new s5 (.cells [.bool n.leaf,vc,vk] 105 false)=s7 at*;have hk7:Kp [] st s7:=(kH.trans k5 (by simp)).trans k7 (by simp);have Sc:=(k7.keep st.next (by omega) (by simp)).trans ((k5.keep st.next (by omega) (by simp)).trans ((k2.keep st.next (by omega) (by simp)).trans g1));have e3:aj .eql (some .int) true (I 0) (.int .i64 0) s7= .ok (.bool true) s7:=rfl;have hlen:=(c1.mono (k7.mono (by simp))).len n.cells.length (bL _) (by omega) s7
 have fin:us (aI 3 (.ptr s5.next 0) s7) fun eB=>upon (aP 3 (.ptr st.next 0) eB s7) fun _ s9=>us (aI 3 (.ptr st.next 0) s9) fun dZ=>vE n st (.tuple [dZ,I 0]) s9:=by
  have jZ:bp [.bool false, .ae, .ae] 0 [.bool n.leaf,vc,vk]=[.bool n.leaf,vc,vk]:=rfl;rw[aQ (n:=3) g7 rfl,af,aF,Sc,aR,aX,jZ];refine⟨⟨rfl,by simp[x2,y2],by simp⟩, ?_⟩;rw[aQ (n:=3) (ao _ _ _) rfl,af];have k9:Kp [st.next] s7 (St.set s7 st.next (.cells [.bool n.leaf,vc,vk] 105 false)):=(Kp.refl _ s7).set _ (.inl (by simp)) (by omega);refine⟨_,rfl,hk7.set _ (.inr (aAE _)) (by omega),fun X hX=> ?_⟩;have:=(hx (X++[st.next]) (by intro b hb;simp at hb;rcases hb with h|h;have:=hX b h;omega;omega)).mono (k7.mono (by simp));exact(this.mono (k9.mono (by simp))).dM (by intro q hq;simp[hq])
 have jS:=hn.full;cases fV:n.leaf with
 |true=>
  rw[fV]at g7;simp only[e3,af,aH,aAY,jI,bo,ah,aA,g7,aq,aAF,aAy,av,dm,aAU,aG,aAz,aAO,cB,ag];exact fin
 |false=>
  rw[fV]at g7 jS;have gL:n.cells≠[]:=by rcases jS with h|h;cases h;exact h
  have Ru:0<n.cells.length:=aCK.2 gL;have e4:aj .eql (some .int) true (I n.cells.length) (.int .i64 0) s7= .ok (.bool false) s7:=by rw[aw,cz,aAB (by omega)]
  simp only[e3,af,aH,aAY,jI,bo,ah,aA,g7,aq,aAF,aAA,aAy,av,dm,aAT,aG,hlen,e4,ag,aAz,aAO];exact fin
theorem LS (m:Nat):cH m [.int .u8 0]=ai (List.replicate m 0):=by
 induction m with
 |zero=>rfl
 |succ m ih=>
  have:cH (m+1) [CV.int .u8 0]= .int .u8 0::cH m [.int .u8 0]:=by simp[cH,aCI]
  rw[this,ih];rfl
theorem mX (h:Tg τ π st G){page:Nat}{n:bg}{v:CV}(hu:G.bP page)(hv:IsNode st [] v n)(hn:n.ok)(hs:n.size<=512):R 100 [.ptr τ 0,I page,v] st fun y st'=>y=I 0/\Kp π.W st st'/\Tg τ π st' (G.put page (.node n)):=by
 have Ds:=hv;obtain⟨vc,vk,rfl,h1,h2⟩:=hv;refine bN ?_;rw[ahM];rw[cn,aX];refine⟨rfl, ?_⟩;have k1:Kp [] st (St.new st (.cells [.bool n.leaf,vc,vk] 105 false)):=(Kp.refl [] st).new _;have g1:(St.new st (.cells [.bool n.leaf,vc,vk] 105 false)).mem.get st.next=some (.cells [.bool n.leaf,vc,vk] 105 false):=au _ _;generalize St.new st (.cells [.bool n.leaf,vc,vk] 105 false)=s1 at*;have t1:=h.still k1;rw[aQ (n:=3) g1 rfl,af];refine(KS t1.fr (Ds.mono k1) hn hs).mono ?_;rintro _ s2 ⟨x,rfl,m2⟩;have k2:=m2.kp;have t2:=t1.still k2;obtain⟨ty,g,hg⟩:=t2.get;have e1:aj .neq (some .int) true (I 0) (.int .i64 0) s2= .ok (.bool false) s2:=rfl;have e2:aj .sub none true (.int .i64 512) (I n.size) s2= .ok (I ((512-n.size:Nat):Int)) s2:=by rw[aw,dW,bz (by omega)];congr 2;omega
 have hlen:=(m2.sl [] (by simp)).len n.size (by simp[bg.size]) (by omega) s2
 have anN:cV .zeros 1 [(.int .u8 0)] (I ((512-n.size:Nat):Int)) s2=some (512-n.size,ai (List.replicate (512-n.size) 0)):=by
  have:cV .zeros 1 [(.int .u8 0)] (I ((512-n.size:Nat):Int)) s2=bu (Nat.ble (512-n.size) 1099511627776) (some (512-n.size,cH (512-n.size) [.int .u8 0])) none:=rfl;rw[this,aO,aAI (by rw[aBe];omega),LS]
 obtain⟨F,a1,a2,a3⟩:=m2;have sY:(ai (ma n)).length=n.size:=by simp[bg.size]
 obtain⟨v',s3,F',b1,b2,b3,b4⟩:=a2.append (n:=512-n.size) (bytes:=1) (T:=ai (List.replicate (512-n.size) 0)) (by omega) (by simp) (bB _) (fun b hb=>(a3 b hb).2) (by simp[bg.size]at*;omega);simp only[aD,aN,af,e1,ag,aAz,aAO,bt,br,ah,aA,hg,aq,aAF,aAy,av,hlen,e2,anN,b1,aS];have k3:Kp [] s1 s3:=a1.trans b3 fun q hq=> .inr (a3 q hq).1;have t3:=t1.still k3;obtain⟨ty3,g3,hg3⟩:=t3.get;rw[<-bE]at b2
 have kL:Sl s3 [π.bn,π.bc] v' 1 (ai (ik (.node n))):=b2.sl fun b hb=>⟨fun hh=>by
  have h9:b<st.next:=h.PY b (by unfold PI.W;simp at hh;rcases hh with h|h<;>simp[h]);have:=k1.next;have:=k2.next;rcases(b4 b hb).1 with h|h
  ·have:=(a3 b h).1;omega
  ·omega,(b4 b hb).2⟩
 refine(IE t3.pg hu kL (GP hs)).mono ?_;rintro _ s4 ⟨rfl,k4,p4⟩;simp only[hg3,aq,aAy,av];have ku:Kp [] st s3:=k1.trans k3 (by simp);have sv:Kp π.W st s4:=(ku.mono (by simp)).trans k4 fun q hq=> .inl hq;exact⟨⟨⟨trivial,trivial⟩,trivial⟩,trivial,trivial,sv,h.of sv p4⟩
theorem BI (h:Tg τ π st G){n:bg}{v:CV}(hf:0<G.cJ)(hv:IsNode st π.W v n)(hn:n.ok)(hs:n.size<=512):R 48 [.ptr τ 0,v] st fun y st'=>y= .tuple [I G.dS,I 0]/\Kp π.W st st'/\Tg τ π st' (G.alloc.put G.dS (.node n)):=by
 have Ds:=hv;obtain⟨vc,vk,rfl,h1,h2⟩:=hv;refine bN ?_;rw[w48];rw[cn,aX];refine⟨rfl, ?_⟩;have k1:Kp [] st (St.new st (.cells [.bool n.leaf,vc,vk] 105 false)):=(Kp.refl [] st).new _;have g1:(St.new st (.cells [.bool n.leaf,vc,vk] 105 false)).mem.get st.next=some (.cells [.bool n.leaf,vc,vk] 105 false):=au _ _;have n1:(St.new st (.cells [.bool n.leaf,vc,vk] 105 false)).next=st.next+1:=rfl;generalize St.new st (.cells [.bool n.leaf,vc,vk] 105 false)=s1 at*;have t1:=h.still k1;refine t1.get' ?_;refine(IF t1.pg hf).mono ?_;rintro _ s2 ⟨rfl,k2,p2⟩;have t2:=t1.of k2 p2;have hW:st.next∉π.W:=fun hh=>by have:=h.PY _ hh;omega
 have g2:=(k2.keep st.next (by omega) hW).trans g1;have e1:aj .neq (some .int) true (I 0) (.int .i64 0) s2= .ok (.bool false) s2:=rfl;simp only[aD,aN,af,e1,ag,aAz,aAO];rw[aQ (n:=3) g2 rfl,af];have ha:=sM h.pg.Uh hf;have hv2:IsNode s2 [] (.agg [.bool n.leaf,vc,vk]) n:=((Ds.mono (k1.mono (by simp))).mono k2).dM (by simp);refine(mX t2 ((ha.bP _).2 (.inr rfl)) hv2 hn hs).mono ?_;rintro _ s3 ⟨rfl,k3,t3⟩;exact⟨rfl,((k1.mono (by simp)).trans k2 fun q hq=> .inl hq).trans k3 fun q hq=> .inl hq,t3⟩
theorem Qq {v:CV}{n:bg}{key:cc}(h:IsNode st [] v n)(hn:n.ok)(hl:n.cells.length<=100000):R 92 [v, .str key] st fun x st'=>x=I (iD n key)/\Kp [] st st':=by
 have h':=h;obtain⟨vc,vk,rfl,h1,h2⟩:=h;refine bN ?_;rw[w92];rw[cn,aX];refine⟨rfl, ?_⟩;have k1:Kp [] st (St.new st (.cells [.bool n.leaf,vc,vk] 105 false)):=(Kp.refl [] st).new _;have g1:(St.new st (.cells [.bool n.leaf,vc,vk] 105 false)).mem.get st.next=some (.cells [.bool n.leaf,vc,vk] 105 false):=au _ _;generalize St.new st (.cells [.bool n.leaf,vc,vk] 105 false)=s1 at*;rw[aQ (n:=3) g1 rfl,af];refine(Oz (h'.mono k1) hl).mono ?_;rintro _ s2 ⟨rfl,k2⟩;have hle:n.find key<=n.cells.length:=aCM;have wc:=VK hn.sorted key;have hk:Kp [] st s2:=k1.trans k2 (by simp);simp only[aD,aN,af,ag];cases hc:n.cells[n.find key]? with
 |none=>
  rw[hc]at wc;have hb:n.hasB key=false:=by unfold bg.hasB;rw[hc]
  rw[hb,aAH (by decide)];exact⟨by rw[wc],hk⟩
 |some c=>
  rw[hc]at wc;dsimp only at wc;have hb:n.hasB key=decide (c.key=key):=by unfold bg.hasB;rw[hc]
  rw[hb]
  by_cases he:c.key=key
  ·rw[aAI he]at wc;rw[aAJ he,aAI rfl,gF _ (by omega),af];exact⟨by rw[wc],hk⟩
  ·rw[aAH he]at wc;rw[aAB he,aAH (by decide)];exact⟨by rw[wc],hk⟩
end
section
variable {τ:Nat} {π:PI} {st st':St} {G:GM}
def Dn (st:St)(X:List Nat)(row:List CV)(s:cO):Prop:=∃vc vk,row=[I s.page,I s.at_, .bool s.n.leaf,vc,vk]/\Sl st X vc 4 (bC s.n.cells)/\Sl st X vk 1 (ck s.n.kids)
def dC (st:St)(X:List Nat):List (List CV)->List cO->Prop
 |[],[]=>True
 |r::rs,s::l=>Dn st X r s/\dC st X rs l
 |_,_=>False
theorem dC.mono {X:List Nat}{rs:List (List CV)}{l:List cO}(h:dC st X rs l)(hk:Kp X st st'):dC st' X rs l:=by
 induction rs generalizing l with
 |nil=>cases l with|nil=>trivial|cons s l=>exact h
 |cons r rs ih=>cases l with
  |nil=>exact h
  |cons s l=>obtain⟨⟨vc,vk,a,b,c⟩,d⟩:=h;exact⟨⟨vc,vk,a,b.mono hk,c.mono hk⟩,ih d⟩
theorem dC.dM {X Y:List Nat}{rs:List (List CV)}{l:List cO}(h:dC st X rs l)(hy:∀q∈Y,q∈X\/st.next<=q):dC st Y rs l:=by
 induction rs generalizing l with
 |nil=>cases l with|nil=>trivial|cons s l=>exact h
 |cons r rs ih=>cases l with
  |nil=>exact h
  |cons s l=>obtain⟨⟨vc,vk,a,b,c⟩,d⟩:=h;exact⟨⟨vc,vk,a,b.dM hy,c.dM hy⟩,ih d⟩
theorem dC.snoc {X:List Nat}{rs:List (List CV)}{l:List cO}{r:List CV}{s:cO}(h:dC st X rs l)(hr:Dn st X r s):dC st X (rs++[r]) (l++[s]):=by
 induction rs generalizing l with
 |nil=>cases l with|nil=>exact⟨hr,trivial⟩|cons s l=>exact h.elim
 |cons r rs ih=>cases l with|nil=>exact h.elim|cons s l=>exact⟨h.1,ih h.2⟩
theorem dC.len {X:List Nat}{rs:List (List CV)}{l:List cO}(h:dC st X rs l):rs.length=l.length:=by
 induction rs generalizing l with
 |nil=>cases l with|nil=>rfl|cons s l=>exact h.elim
 |cons r rs ih=>cases l with|nil=>exact h.elim|cons s l=>simp[ih h.2]
theorem dC.w {X:List Nat}{rs:List (List CV)}{l:List cO}(h:dC st X rs l):∀x∈rs,x.length=5:=by
 induction rs generalizing l with
 |nil=>simp
 |cons r rs ih=>cases l with
  |nil=>exact h.elim
  |cons s l=>
   obtain⟨⟨vc,vk,rfl,b,c⟩,d⟩:=h;intro x hx;rcases aAD.1 hx with rfl|hx
   ·rfl
   ·exact ih d x hx
theorem dC.at {X:List Nat}{rs:List (List CV)}{l:List cO}(h:dC st X rs l){i:Nat}(hi:i<l.length):∃fv:i<rs.length,Dn st X rs[i] l[i]:=by
 induction rs generalizing l i with
 |nil=>cases l with
  |nil=>simp at hi
  |cons s l=>exact h.elim
 |cons r rs ih=>cases l with
  |nil=>exact h.elim
  |cons s l=>
   cases i with
   |zero=>exact⟨by simp,h.1⟩
   |succ i=>obtain⟨a,b⟩:=ih h.2 (i:=i) (by simpa using hi);exact⟨by simp;omega,b⟩
theorem dC.one {X:List Nat}{rs:List (List CV)}{l:List cO}(h:dC st X rs l):aV rs.flatten=true:=by
 induction rs generalizing l with
 |nil=>rfl
 |cons r rs ih=>cases l with
  |nil=>exact h.elim
  |cons s l=>
   obtain⟨⟨vc,vk,rfl,b,c⟩,d⟩:=h;rw[aBU,qt,ih d];simp[b.bG.2.1,c.bG.2.1]
def eP (st:St)(X:List Nat)(x:CV)(l:List cO):Prop:=∃rows,Sl st X x 5 rows.flatten/\dC st X rows l
theorem eP.mono {X:List Nat}{x:CV}{l:List cO}(h:eP st X x l)(hk:Kp X st st'):eP st' X x l:=by
 obtain⟨rows,a,b⟩:=h;exact⟨rows,a.mono hk,b.mono hk⟩
theorem eP.dM {X Y:List Nat}{x:CV}{l:List cO}(h:eP st X x l)(hy:∀q∈Y,q∈X\/st.next<=q):eP st Y x l:=by
 obtain⟨rows,a,b⟩:=h;exact⟨rows,a.dM hy,b.dM hy⟩
def Sz (G:GM)(key:cc)(L:List bA)(st:St)(y:CV)(st':St):Prop:=
 Kp [] st st'/\∃x,y= .tuple [x,I 0]/\((G.root=0/\x= .ae)\/∃f rest,uk G key f rest L/\rest.length<=16/\∀X,(∀b∈X,b<st.next)->eP st' X x (rest.reverse++[f]))
theorem Cd (h:Tg τ π st G){L:List bA}(ht:ic G L)(key:cc):R 45 [.ptr τ 0, .str key] st (Sz G key L st):=by
 refine bN ?_;rw[w45];simp only[cN,aJ,aK];refine h.get' ?_;refine(Hg h.pg).same ?_
 by_cases h0:G.root=0
 ·
   refine bK (fun fu vs s=>vs=[.ptr τ 0, .str key, .ae,I G.root]/\s=st) ?_ (n:=0) ⟨rfl,rfl⟩;rintro fu vs s k ⟨rfl,rfl⟩ next;have e1:aj .neq (some .int) true (I G.root) (.int .i64 0) s= .ok (.bool false) s:=by rw[h0];rfl
   simp only[aJ,aK,e1,af,ag,aAz,aAO];exact⟨Kp.refl _ _, .ae,rfl, .inl ⟨h0,rfl⟩⟩
 ·obtain⟨H,ps0,abB,Wj⟩:=ht.tree.resolve_left fun h=>h0 h.1;have hH:=Wj.deep abB ht.ok
  refine bK (fun fu vs s=>∃(l:List cO) (hh page:Nat) (lo:cc) (hi:Option cc) (Ll Lr Lm:List bA) (ps q:List Nat) (x:CV) (rows:List (List CV)) (F:List Nat),
   fu=hh/\vs=[.ptr τ 0, .str key,x,I page]/\Kp [] st s/\Ctx G hh l.reverse page lo hi Ll Lr ps/\Sub G hh page lo hi Lm q/\jY lo key/\A3 key hi/\(q++ps).Nodup/\Ll++(Lm++Lr)=L/\l.length+hh=H/\Own s x 5 107 rows.flatten F/\(∀b∈F,st.next<=b/\b<s.next)/\
   (∀X,(∀b∈X,b<st.next\/b∈F)->dC s X rows l)) ?_ (n:=H) ⟨[],H,G.root,[],none,[],[],L,[],ps0, .ae,[],[],rfl,rfl,Kp.refl _ _,⟨rfl,rfl,rfl,rfl,rfl,rfl⟩,Wj,QW _,trivial,by simpa using abB,by simp,by simp, .inl ⟨rfl,rfl,rfl⟩,by simp,fun X hX=>trivial⟩
  rintro fu vs s k ⟨l,hh,page,lo,hi,Ll,Lr,Lm,ps,q,x,rows,F,rfl,rfl,hk,xp,sW,Du,Gr,iQ,hL,hlen,CJ,hF,fP⟩ next;have Gi:=sW;obtain⟨n,qn,hn,kI,rfl⟩:=sW;have Ru:=hn.bP.1;have e1:aj .neq (some .int) true (I page) (.int .i64 0) s= .ok (.bool true) s:=by rw[aw,ff,aAB (by omega)];rfl
  simp only[aJ,aK,e1,af,ag,aAY];have ts:=h.still hk;have hns:=hk.next;refine(xQ ts hn).mono ?_;rintro _ s3 ⟨xn,rfl,k3,hxn⟩;have n3:=k3.next;obtain⟨vc,vk,rfl,c1,c2⟩:=hxn [] (by simp);obtain⟨x1,x2,x3⟩:=c1.bG;obtain⟨y1,y2,y3⟩:=c2.bG;simp only[aD,aN,af];refine tn rfl rfl (by simp[x2,y2]) ?_;have k5:Kp [] s3 (St.new s3 (.cells [.bool n.leaf,vc,vk] 105 false)):=(Kp.refl _ s3).new _;have g5:(St.new s3 (.cells [.bool n.leaf,vc,vk] 105 false)).mem.get s3.next=some (.cells [.bool n.leaf,vc,vk] 105 false):=au _ _;have n5:(St.new s3 (.cells [.bool n.leaf,vc,vk] 105 false)).next=s3.next+1:=rfl;generalize St.new s3 (.cells [.bool n.leaf,vc,vk] 105 false)=s5 at*;have E7:Kp [] s s5:=k3.trans k5 (by simp);have o5:=CJ.keep E7 fun b hb=>⟨(hF b hb).2,by simp⟩;have TY:=(fP [] (by simp));have yR:rows.length=l.length:=TY.len;have Tq:rows.flatten.length=rows.length*5:=fw TY.w;have sl5:Sl s5 [] x 5 rows.flatten:=o5.sl fun b hb=>⟨by simp,by have:=(hF b hb).2;omega⟩;have e2:aj .neq (some .int) true (I 0) (.int .i64 0) s5= .ok (.bool false) s5:=rfl;have e3:aj .eql (some .int) true (I rows.length) (.int .i64 40) s5= .ok (.bool false) s5:=by rw[aw,cz,aAB (by omega)]
  have qx:n.cells.length<=512:=by
   have:=eR n.leaf n.cells;have:=hn.size;rw[bX]at this;omega
  simp only[e2,ag,aAz,aAO,sl5.len rows.length Tq (by omega) s5,af,e3,fl,ah,aA,g5,aq,aAF,aAy,av];have CN:IsNode s5 [] (.agg [.bool n.leaf,vc,vk]) n:=⟨vc,vk,rfl,c1.mono k5,c2.mono k5⟩
  have push:∀(s6:St) (at_:Nat) (K:CV->St->Prop),Kp [] s5 s6->(∀v' s8 F',Own s8 v' 5 107 (rows++[[I page,I at_, .bool n.leaf,vc,vk]]).flatten F'->Kp [] st s8->s8.mem.get s3.next=some (.cells [.bool n.leaf,vc,vk] 105 false)->(∀b∈F',st.next<=b/\b<s8.next)->Sl s8 [] vk 1 (ck n.kids)->
   (∀X,(∀b∈X,b<st.next\/b∈F')->dC s8 X (rows++[[I page,I at_, .bool n.leaf,vc,vk]]) (l++[⟨page,at_,n⟩]))->K v' s8)->
   us (aI 3 (.ptr s3.next 0) s6) fun dZ=>us (bD [.int .i64 0, .int .i64 0, .bool false, .ae, .ae] [(0,1,I page),(1,1,I at_),(2,3,dZ)] s6) fun eo=>upon (bQ 107 1 (cH 1 [.int .i64 0, .int .i64 0, .bool false, .ae, .ae]) [(0,5,eo)] s6) fun eF s7=>
    upon (bM 107 5 72 x (cV .slice 5 [.int .i64 0, .int .i64 0, .bool false, .ae, .ae] eF s7) s7) K:=by
   intro s6 at_ K k6 hK;have n6:=k6.next;have g6:=(k6.keep s3.next (by omega) (by simp)).trans g5;have CP:Kp [] s s6:=E7.trans k6 (by simp);rw[aQ (n:=3) g6 rfl,af]
   have mC:bD [.int .i64 0, .int .i64 0, .bool false, .ae, .ae] [(0,1,I page),(1,1,I at_),(2,3, .agg [.bool n.leaf,vc,vk])] s6= .ok (.agg [I page,I at_, .bool n.leaf,vc,vk]) s6:=by
    rw[dN];simp[cF,bp]
   rw[mC,af];have o6:=o5.keep k6 fun b hb=>⟨by have:=(hF b hb).2;omega,by simp⟩;have ava:rows.length<=16:=by omega
   refine O5 72 o6 (by omega) (fun b hb=>by have:=(hF b hb).2;omega) rfl rfl rfl (by simp[x2,y2]) (by rw[Tq];omega) ?_;intro v' s8 F' a1 a2 a3
   have Ub:∀b∈F',st.next<=b/\b<s8.next/\(b∈F\/s6.next<=b):=fun b hb=>by
    obtain⟨p1,p2⟩:=a3 b hb;refine⟨?_,p2,p1⟩;rcases p1 with h|h
    ·exact(hF b h).1
    ·omega
   have lI:Kp [] st s8:=(hk.trans CP (by simp)).trans a2 fun b hb=> .inr (hF b hb).1;have akB:s3.next∉F:=fun hh=>by have:=(hF _ hh).2;omega
   have hxF:=hxn F (fun b hb=>(hF b hb).2);obtain⟨_,_,e9,d1,d2⟩:=hxF;cases e9;have WU:Kp [] s3 s6:=k5.trans k6 (by simp);refine hK v' s8 F' (by simpa using a1) lI ((a2.keep s3.next (by omega) akB).trans g6) (fun b hb=>⟨(Ub b hb).1,(Ub b hb).2.1⟩) (((d2.mono (WU.mono (by simp))).mono a2).dM (by simp)) ?_;intro X hX;refine dC.snoc ?_ ⟨vc,vk,rfl, ?_, ?_⟩
   ·have h1:=fP ((X.filter fun b=>decide (b<st.next))++F) (by intro b hb;simp at hb;rcases hb with h|h;exact .inl h.2;exact .inr h)
    have h2:dC s (X++F) rows l:=h1.dM (by
     intro b hb;simp only[aAM,aCs,aBR]at hb⊢;rcases hb with hb|hb
     ·rcases hX b hb with h|h
      ·exact .inl (.inl ⟨hb,h⟩)
      ·rcases(Ub b h).2.2 with h2|h2
       ·exact .inl (.inr h2)
       ·right;have:=CP.next;omega
     ·exact .inl (.inr hb))
    exact((h2.mono (CP.mono (by simp))).mono (a2.mono fun q hq=> .inl (by simp[hq]))).dM (by intro b hb;simp[hb])
   all_goals
    obtain⟨_,_,e9,d3,d4⟩:=hxn ((X.filter fun b=>decide (b<s.next))++F) (by intro b hb;simp at hb;rcases hb with h|h;exact h.2;exact(hF b h).2);cases e9
    have NV:∀b∈X++F,b∈(X.filter fun b=>decide (b<s.next))++F\/s6.next<=b:=by
     intro b hb;simp only[aAM,aCs,aBR]at hb⊢;rcases hb with hb|hb
     ·rcases hX b hb with h|h
      ·exact .inl (.inl ⟨hb,by omega⟩)
      ·rcases(Ub b h).2.2 with h2|h2
       ·exact .inl (.inr h2)
       ·exact .inr h2
     ·exact .inl (.inr hb)
   ·exact(((d3.mono (WU.mono (by simp))).dM NV).mono (a2.mono fun q hq=> .inl (by simp[hq]))).dM (by intro b hb;simp[hb])
   ·exact(((d4.mono (WU.mono (by simp))).dM NV).mono (a2.mono fun q hq=> .inl (by simp[hq]))).dM (by intro b hb;simp[hb])
  cases fu with
  |zero=>
   have fV:n.leaf=true:=kI.leaf;rw[fV]at push;rw[fV]at g5 CN;rw[fV,aAI rfl,aQ (n:=3) g5 rfl,af];refine(Oz CN (by omega)).mono ?_;rintro _ s6 ⟨rfl,k6⟩;simp only[aD,aN,af];refine push s6 (n.find key) _ k6 ?_;intro v' s8 F' a1 a2 a3 a4 a5 a6;refine⟨a2,v',rfl, .inr ⟨⟨page,n.find key,n⟩,l.reverse,⟨lo,hi,Ll,Lr,Lm,ps,qn,xp,hn,kI,Du,Gr,by simpa using iQ,hL,rfl⟩,by rw[List.length_reverse];omega,fun X hX=> ?_⟩⟩;rw[aCu];exact⟨_,a1.sl fun b hb=>⟨fun hh=>by have:=hX b hh;have:=(a4 b hb).1;omega,(a4 b hb).2⟩,a6 X fun b hb=> .inl (hX b hb)⟩
  |succ hh=>
   have fV:n.leaf=false:=kI.leaf;obtain⟨wL,Hu,wY,La,Lm2,Lb,p2,pm,d1,d2,d3,d4,d5,d6,d7⟩:=xp.descend hn kI Du Gr;rw[fV]at push;rw[fV]at g5 CN;rw[fV,aAH (by decide),aQ (n:=3) g5 rfl,af];refine(Qq CN hn.ok (by omega)).mono ?_;rintro _ s6 ⟨rfl,k6⟩;refine push s6 (iD n key) _ k6 ?_;intro v' s8 F' a1 a2 a3 a4 a5 a6;obtain⟨fv,qz⟩:=aAP.1 d1;simp only[ah,af,aA,a3,aq,aAF,aAA,aAy,av];refine a5.idx (i:=iD n key) (by simpa using fv) _ ?_;have e4:(ck n.kids)[iD n key]'(by simpa using fv)=I wL:=by simp[ck,qz]
   have Wu:0<wL:=by obtain⟨_,_,YY,_⟩:=d3;exact YY.bP.1
   have e5:aj .eql (some .int) true (I wL) (.int .i64 0) s8= .ok (.bool false) s8:=by rw[aw,cz,aAB (by omega)]
   rw[e4,e5,af,ag,aAH (by decide)];refine next hh _ _ (by omega) ⟨l++[⟨page,iD n key,n⟩],hh,wL,Hu,wY,Ll++La,Lb++Lr,Lm2,p2,pm,v',_,F',rfl,rfl,a2, ?_,d3,d4,d5, ?_, ?_,by simp;omega,a1,a4,a6⟩
   ·rw[List.reverse_append];exact d2
   ·exact d7.nodup_iff.2 (by simpa using iQ)
   ·rw[<-hL,d6];simp
end
section
variable {st st':St}
theorem GF {X:List Nat}{v:CV}{l:List UInt8}(h:Sl st X v 1 (ai l))(hl:l.length<=1000)(hb:∀i,nb (l.take i)<=4611686018427387904):R 141 [v] st fun x st'=>x=I (nb l)/\st'=st:=by
 refine bN ?_;rw[ahf];have hlen:=h.len l.length (by simp) (by omega) st;show us _ _;rw[hlen,af];show c8 _ _ _;simp only[aJ,aK];refine bK (fun fu vs s=>∃i,fu+i=l.length/\vs=[I (nb (l.take i)),v,I l.length,I i]/\s=st) ?_ (n:=l.length) ⟨0,rfl,rfl,rfl⟩;rintro fu vs s k ⟨i,hi,rfl,rfl⟩ next;simp only[aJ,aK]
 by_cases hc:i<l.length
 ·have a1:aj .lss none false (I i) (I l.length) s= .ok (.bool true) s:=by rw[aw,cP,aAJ (by omega)]
  have Jm:=hb i;have Gu:=hb (i+1);have yO:l.take (i+1)=l.take i++[l[i]]:=by rw[aAR hc]
  rw[yO,rJ]at Gu;have hlt:(l[i]).toNat<256:=(l[i]).toNat_lt
  have a2:aj .shl none true (I (nb (l.take i))) (.int .u64 8) s= .ok (I ((nb (l.take i)*2^8:Nat):Int)) s:=by
   have e:aj .shl none true (I (nb (l.take i))) (.int .u64 8) s= .ok (I (IntKind.i64.wrap ((nb (l.take i):Int)*2^8))) s:=rfl;rw[e,bz (by omega)];simp
  have a3:dB (.toInt .i64) (bO l[i]) s= .ok (I (l[i]).toNat) s:=DK _ (by omega) _ _;have a4:aj .or none false (I ((nb (l.take i)*2^8:Nat):Int)) (I (l[i]).toNat) s= .ok (I ((nb (l.take i)*2^8+(l[i]).toNat:Nat):Int)) s:=AX _ _ _ (by omega) (by omega) _ _ _;have a5:aj .add none true (I i) (.int .i64 1) s= .ok (I ((i+1:Nat):Int)) s:=by rw[aw,cE,bz (by omega)];rfl
  simp only[a1,af,ag,aAY,a2];refine h.idx (by simpa using hc) _ ?_;have hg:(ai l)[i]'(by simpa using hc)=bO l[i]:=by simp[ai]
  rw[hg,a3,af,a4,af,a5,af];exact next (fu-1) _ _ (by omega) ⟨i+1,by omega,by rw[yO,rJ],rfl⟩
 ·have a1:aj .lss none false (I i) (I l.length) s= .ok (.bool false) s:=by rw[aw,cP,aAB (by omega)]
  simp only[a1,af,ag,aAz,aAO];rw[aAK (by omega)];exact⟨rfl,trivial⟩
theorem Ql {b off len cap n:Nat}{L:List CV}{t:TypeId}{g:Bool}(hb:st.mem.get b=some (.cells L t g))(Dy:b<st.next)(hL:off+len<=L.length)(hlen:len<=8)(hn:n<9223372036854775808):
 R 98 [.slice b off len cap 0,I n] st fun x st'=>Kp [b] st st'/\st'.next=st.next/\st'.mem.get b=some (.cells (bp L off (ai (be len n))) t g):=by
 refine bN ?_;rw[w98];simp only[cN,ns,af,aJ,aK]
 refine bK (fun fu vs s=>∃i,fu+i=len/\vs=[.slice b off len cap 0,I n,I len,I i]/\Kp [b] st s/\s.next=st.next/\s.mem.get b=some (.cells (bp L (off+len-i) (ai (be i n))) t g)) ?_ (n:=len) ⟨0,rfl,rfl,Kp.refl _ _,rfl,by
  have:ai (be 0 n)=[]:=rfl;rw[this,yx];exact hb⟩
 rintro fu vs s k ⟨i,hi,rfl,hk,HA,hg⟩ next;simp only[aJ,aK]
 by_cases hc:i<len
 ·have a1:aj .lss none false (I i) (I len) s= .ok (.bool true) s:=by rw[aw,cP,aAJ (by omega)]
  have a2:aj .sub none true (I len) (.int .i64 1) s= .ok (I ((len-1:Nat):Int)) s:=by rw[aw,dW,bz (by omega)];congr 2;omega
  have a3:aj .sub none false (I ((len-1:Nat):Int)) (I i) s= .ok (I ((len-1-i:Nat):Int)) s:=by rw[aw,dW,bz (by omega)];congr 2;omega
  have a4:aj .mul none true (.int .i64 8) (I i) s= .ok (I ((8*i:Nat):Int)) s:=by rw[aw,jR,bz (by omega)];rfl
  have a5:cQ 1 (.slice b off len cap 0) (I ((len-1-i:Nat):Int)) s= .ok (.ptr b (off+(len-1-i)*1)) s:=gf (by omega) (.inl rfl) s;have a6:∀s,aj .add none true (I i) (.int .i64 1) s= .ok (I ((i+1:Nat):Int)) s:=fun s=>by rw[aw,cE,bz (by omega)];rfl
  simp only[a1,af,ag,aAY,ns,a2,a3,a4,BS _ _ (show i<8 by omega),Ma,EN,a5,aF,hg,aR,a6];have e1:off+(len-1-i)*1=off+len-(i+1):=by omega
  have e2:off+len-i=off+len-(i+1)+1:=by omega
  have sY:(be i n).length=i:=gU i n
  have e3:bp (bp L (off+len-i) (ai (be i n))) (off+len-(i+1)) [bO (UInt8.ofNat (n/256^i%256))]=bp L (off+len-(i+1)) (ai (be (i+1) n)):=by
   rw[e2,AY _ _ _ _ (by simp[sY];omega),xI];rfl
  have Rq:(bO (UInt8.ofNat (n/256^i%256))).cD=[bO (UInt8.ofNat (n/256^i%256))]:=rfl;rw[e1,Rq,e3];refine⟨⟨rfl,rfl,by rw[l7 _ _ _ (by simp[sY];omega)];omega⟩,next (fu-1) _ _ (by omega) ⟨i+1,by omega,rfl,hk.set _ (.inl (by simp)) (by omega),HA,ao _ _ _⟩⟩
 ·have a1:aj .lss none false (I i) (I len) s= .ok (.bool false) s:=by rw[aw,cP,aAB (by omega)]
  simp only[a1,af,ag,aAz,aAO];have Dw:i=len:=by omega
  subst Dw;rw[aBX]at hg;exact⟨hk,HA,hg⟩
end
def dK (n:Nat):Nat:=if n<=64 then 0 else (n+479)/480
theorem Ce {st:St}{n:Nat}(hn:n<=4000000000):R 44 [I n] st fun v st'=>v=I (dK n)/\st'=st:=by
 refine bN ?_;rw[w44];have e1:aj .leq none true (I n) (.int .i64 64) st= .ok (.bool (decide (n<=64))) st:=by rw[aw,oT];congr 2;simp only[aBc];omega
 have e2:aj .add none true (I n) (.int .i64 480) st= .ok (I ((n+480:Nat):Int)) st:=by rw[aw,cE,bz (by omega)];rfl
 have e3:aj .sub none true (I ((n+480:Nat):Int)) (.int .i64 1) st= .ok (I ((n+479:Nat):Int)) st:=by rw[aw,dW,bz (by omega)];congr 2;omega
 have e4:aj .quo none true (I ((n+479:Nat):Int)) (.int .i64 480) st= .ok (I (((n+479)/480:Nat):Int)) st:=by
  have e0:aj .quo none true (I ((n+479:Nat):Int)) (.int .i64 480) st= .ok (I (IntKind.i64.wrap (Int.tdiv ((n+479:Nat):Int) 480))) st:=rfl;have e1:Int.tdiv ((n+479:Nat):Int) 480=(((n+479)/480:Nat):Int):=rfl;rw[e0,e1,bz (by omega)]
 unfold dK;simp only[e1,af,ag,e2,e3,e4]
 by_cases h:n<=64
 ·rw[aAJ h,aAI rfl,aAI h];exact⟨rfl,trivial⟩
 ·rw[aAB h,aAH (by decide),aAH h];exact⟨rfl,trivial⟩
theorem ov.len {G:GM}{ps:List Nat}{page:Nat}{v:List UInt8}(h:ov G ps page v):ps.length=(v.length+479)/480:=by
 induction ps generalizing page v with
 |nil=>obtain⟨_,rfl⟩:=h;rfl
 |cons p ps ih=>
  obtain⟨_,h1,_,next,_,_,h5⟩:=h;have:=ih h5;rw[aAX]at this;have:0<v.length:=aCK.2 h1;rw[aBb];omega
section
variable {τ:Nat} {π:PI} {st st':St}
theorem IQ {f:CV}{c:dh}(Inv:Nat->GM->List Nat->Nat->List UInt8->St->Prop)
 (hT:∀q G ps page v s,Inv q G ps page v s->Tg τ π s G/\ov G ps page v/\s.mem.get q=some (.cells (aU c) 109 false)/\q<s.next)
 (hS:∀q G p ps v s next,Inv q G (p::ps) p v s->G.cont p= .dL next (v.take 480)->ov G ps next (v.drop 480)->∀s' b,Kp [] s s'->(∀X,(∀b∈X,b<s.next)->Sl s' X b 1 (ai (v.take 480++List.replicate (480-(v.take 480).length) 0)))->fB R f [I p,b] s' fun x SP=>x=I 0/\∃G',Inv q G' ps next (v.drop 480) SP)
 {G:GM} {ps:List Nat} {v:List UInt8} (h0:∀s1 q,Kp [] st s1->st.next<=q->q<s1.next->s1.mem.get q=some (.cells (aU c) 109 false)->Inv q G ps c.dL v s1) (hl:ps.length=dK c.size) (hsz:c.size<=8192):
 R 93 [.ptr τ 0, .agg (aU c),f] st fun x st'=>x=I 0/\∃q G',st.next<=q/\Inv q G' [] 0 [] st':=by
 refine bN ?_;rw[w93];rw[cn,aX];refine⟨rfl, ?_⟩;have k1:Kp [] st (St.new st (.cells (aU c) 109 false)):=(Kp.refl [] st).new _;have g1:(St.new st (.cells (aU c) 109 false)).mem.get st.next=some (.cells (aU c) 109 false):=au _ _;have n1:(St.new st (.cells (aU c) 109 false)).next=st.next+1:=rfl;generalize St.new st (.cells (aU c) 109 false)=s1 at*;have i1:=h0 s1 st.next k1 (aAE _) (by omega) g1
 have Fe:∀o x,(aU c)[o]?=some x->∀s,s.mem.get st.next=some (.cells (aU c) 109 false)->∀K:CV->Prop,fl o (.ptr st.next 0) s K=K x:=by
  intro o x hx s hs K;simp only[fl,ah,af,aA,hs,aq,aAF,hx,av]
 rw[Fe 2 (I c.dL) rfl s1 g1,cN,Fe 3 (I c.size) rfl s1 g1];refine(Ce (n:=c.size) (by omega)).same ?_;simp only[aJ,aK]
 have acF:ps.length<=1000000:=by
  rw[hl];unfold dK;split<;>omega
 rw[<-hl];refine bK (fun fu vs s=>∃(G':GM) (i page:Nat) (pr:List Nat) (vr:List UInt8),fu+i=ps.length/\pr.length=fu/\vs=[.ptr τ 0,f, .ptr st.next 0,I page,I ps.length,I i]/\Inv st.next G' pr page vr s) ?_ (n:=ps.length) ⟨G,0,c.dL,ps,v,rfl,rfl,rfl,i1⟩;rintro fu vs s k ⟨G',i,page,pr,vr,hi,hpr,rfl,WY⟩ next;obtain⟨hT1,hC,hg,hlt⟩:=hT _ _ _ _ _ _ WY;simp only[aJ,aK,dv,af,ag]
 by_cases hc:i<ps.length
 ·rw[aAJ hc,aAI rfl]
  obtain⟨p,Yx,rfl⟩:∃p Yx,pr=p::Yx:=by
   cases pr with
   |nil=>simp at hpr;omega
   |cons p Yx=>exact⟨p,Yx,rfl⟩
  obtain⟨rfl,gL,hu,nx,zb,Ao,hC2⟩:=hC;refine hT1.get' ?_;refine(MK hT1.pg hu).mono ?_;rintro _ s4 ⟨k4,vi,b,rfl,g4,b1,b2⟩;rw[zb]at vi g4;have n4:=k4.next;have gq4:=(k4.keep st.next hlt (by simp)).trans hg;have e1:aj .eql (some .int) true (I 0) (.int .i64 1) s4= .ok (.bool false) s4:=rfl;have e2:aj .gtr none true (I c.size) (.int .i64 8192) s4= .ok (.bool false) s4:=by rw[aw,dq,aAB (by omega)]
  have e3:aj .neq (some .int) true (I 0) (.int .i64 0) s4= .ok (.bool false) s4:=rfl;have hcz:(aU c)[3]?=some (I c.size):=rfl;have LG:(ai (ik (.dL nx (vr.take 480)))).length=512:=by simpa using vi
  have kL:∀X,(∀b∈X,b<s.next)->Sl s4 X (.slice b 0 512 512 1) 1 (ai (ik (.dL nx (vr.take 480)))):=fun X hX=> .inr ⟨b,0,512,512,1,rfl,by rw[LG],⟨aAE _, .inr rfl⟩, .inr ⟨fun h=>by have:=hX b h;omega,b2,_,_,_,g4,by omega,by rw[aBg,aAK (by omega)]⟩⟩;obtain⟨Qe,p1,p2⟩:=(kL [] (by simp)).hi (n:=512) (by omega) (by rw[LG]) (h:=4) (by omega) s4
  have yO:(ai (ik (.dL nx (vr.take 480)))).take (4*1)=ai (be 4 nx):=by
   unfold ik;rw[bE,aBW (by rw[bJ,gU])]
  rw[yO]at p2;have p1':aL 1 (.slice b 0 512 512 1) none (some (.int .i64 4)) s4= .ok Qe s4:=p1;simp only[aD,aN,af,e1,aH,aAz,aAO,aAT,jI,bo,ah,aA,gq4,aq,aAF,hcz,av,e2,aG,ag,e3,p1'];refine(GF p2 (by rw[gU];omega) (sL _ (by rw[gU];omega))).same ?_;rw[uj 4 nx (by have:nx<=2147483647:=Ao;omega)];have aff:(vr.take 480).length<=480:=by rw[aAN];omega
  have WE:((ai (ik (.dL nx (vr.take 480)))).drop (4*1)).take ((484-4)*1)=ai (vr.take 480++List.replicate (480-(vr.take 480).length) 0):=by
   unfold ik;rw[bE,aCW (by rw[bJ,gU]),bE,aCv,aAK (by rw[bJ];omega),bE]
   congr 1
   unfold ai;rw[<-aCk,List.take_replicate,aBJ]
   congr 2;omega
  obtain⟨v19,p3,_⟩:=(kL [] (by simp)).both (n:=512) (by omega) (by rw[LG]) (l:=4) (h:=484) (by omega) (by omega) s4;have p3':aL 1 (.slice b 0 512 512 1) (some (.int .i64 4)) (some (.int .i64 484)) s4= .ok v19 s4:=p3;rw[p3',af];refine rE (hS st.next G' page Yx vr s nx WY zb hC2 s4 v19 k4 fun X hX=> ?_) ?_
  ·obtain⟨asU,q3,q4⟩:=(kL X hX).both (n:=512) (by omega) (by rw[LG]) (l:=4) (h:=484) (by omega) (by omega) s4;rw[p3]at q3;cases q3;rw[WE]at q4;exact q4
  ·rintro _ s6 ⟨rfl,G2,wY⟩;have e4:aj .neq (some .int) true (I 0) (.int .i64 0) s6= .ok (.bool false) s6:=rfl;rw[e4,af,ag,aAH (by decide),gF i (by omega),af];exact next (fu-1) _ _ (by omega) ⟨G2,i+1,nx,Yx,_,by omega,by simp at hpr;omega,rfl,wY⟩
 ·rw[aAB hc,aAH (by decide)];have:pr=[]:=aBa.1 (by omega);subst this;obtain⟨rfl,rfl⟩:=hC;have e5:aj .neq (some .int) true (I ((0:Nat):Int)) (.int .i64 0) s= .ok (.bool false) s:=rfl;rw[e5,af,ag,aAH (by decide)];exact⟨trivial,st.next,G',aAE _,WY⟩
end
section
variable {τ:Nat} {π:PI} {st st':St} {G:GM}
theorem Tg.vg (h:Tg τ π st G){X:List Nat}(hk:Kp X st st')(hx:∀b∈X,b∉π.all/\b≠τ):Tg τ π st' G:=by
 obtain⟨ty,g,hg⟩:=h.get;exact⟨h.pg.keep hk fun b hb hh=>(hx b hh).1 hb,aAZ h.lt hk.next,h.not,⟨ty,g,(hk.keep τ h.lt fun hh=>(hx τ hh).2 rfl).trans hg⟩,hk.fresh h.fr⟩
structure Yb (τ:Nat)(π:PI)(st:St)(G:GM)(c:dh)(bx:Nat)(ahN:List UInt8)(q:Nat)(ps:List Nat)(page:Nat)(v:List UInt8)(s:St)(x:CV)(F:List Nat)(taken pad:List UInt8):Prop where
 tg:Tg τ π s G
 chain:ov G ps page v
 box:s.mem.get q=some (.cells (aU c) 109 false)
 lt:q<s.next
 ne:q≠bx
 gbx:s.mem.get bx=some (.cells [x] 93 false)
 bl:bx<s.next
 own:Own s x 1 5 (ai (taken++pad)) F
 F:∀b∈F,bx<b/\b<s.next/\b≠q
 tot:ahN=taken++v
 air:v≠[]->pad=[]
 atr:pad.length<=480
 kp:Kp [] st s
theorem DG (h:Tg τ π st G){c:dh}{v:List UInt8}{ps:List Nat}(hc:c.ok true)(hv:Bx G c v ps):R 53 [.ptr τ 0, .agg (aU c)] st fun x st'=>x= .tuple [.str v,I 0]/\Kp [] st st':=by
 refine bN ?_;rw[w53];rw[cn,aX];refine⟨rfl, ?_⟩;have k1:Kp [] st (St.new st (.cells (aU c) 109 false)):=(Kp.refl [] st).new _;have g1:(St.new st (.cells (aU c) 109 false)).mem.get st.next=some (.cells (aU c) 109 false):=au _ _;have n1:(St.new st (.cells (aU c) 109 false)).next=st.next+1:=rfl;generalize St.new st (.cells (aU c) 109 false)=s1 at*
 have Fe:∀o x,(aU c)[o]?=some x->∀s,s.mem.get st.next=some (.cells (aU c) 109 false)->∀K:CV->Prop,fl o (.ptr st.next 0) s K=K x:=by
  intro o x hx s hs K;simp only[fl,ah,af,aA,hs,aq,aAF,hx,av]
 rw[Fe 2 (I c.dL) rfl s1 g1,Fe 1 (.str c.value) rfl s1 g1];rcases hv with⟨h0,rfl,rfl⟩|⟨h0,hsz,Du,Gr,hC⟩
 ·have e1:aj .eql (some .int) true (I c.dL) (.int .i64 0) s1= .ok (.bool true) s1:=by rw[h0];rfl
  rw[e1,af,ag,aAI rfl];exact⟨rfl,k1⟩
 ·have e1:aj .eql (some .int) true (I c.dL) (.int .i64 0) s1= .ok (.bool false) s1:=by rw[aw,cz,aAB (by omega)]
  rw[e1,af,ag,aAH (by decide),cG,aS];have k2:Kp [] s1 (St.new s1 (.cells [.ae] 93 false)):=(Kp.refl [] s1).new _;have g2:(St.new s1 (.cells [.ae] 93 false)).mem.get s1.next=some (.cells [.ae] 93 false):=au _ _;have n2:(St.new s1 (.cells [.ae] 93 false)).next=s1.next+1:=rfl;generalize St.new s1 (.cells [.ae] 93 false)=s2 at*;have sy:=(k2.keep st.next (by omega) (by simp)).trans g1;have kH:Kp [] st s2:=k1.trans k2 (by simp);have t2:=h.still kH;rw[aQ (n:=4) sy rfl,af,l6,af];refine(IQ (st:=s2) (τ:=τ) (π:=π) (c:=c) (G:=G) (ps:=ps) (v:=v) (fun q G' ps page v' s=>G'=G/\∃x F taken pad,Yb τ π st G c s1.next v q ps page v' s x F taken pad/\st.next<q/\s.mem.get st.next=some (.cells (aU c) 109 false)) ?_ ?_ ?_ ?_ ?_).mono ?_
  ·rintro q G' ps page v' s ⟨rfl,x,F,taken,pad,hI,_⟩;exact⟨hI.tg,hI.chain,hI.box,hI.lt⟩
  ·rintro q G' p nX v' s nx ⟨rfl,x,F,taken,pad,hI,hq,hst⟩ zb hC2 s' b hk kL;have ake:v'≠[]:=by obtain⟨_,h,_⟩:=hI.chain;exact h
   have akk:=hI.air ake;subst akk;have hns:=hk.next;rw[dP];simp only[aBf,aBC];refine bN ?_;rw[ahE];have gbx:=(hk.keep _ hI.bl (by simp)).trans hI.gbx;have MT:=hI.own.keep hk fun b hb=>⟨(hI.F b hb).2.1,by simp⟩;obtain⟨m,q1,q2⟩:=(kL [] (by simp)).src [(.int .u8 0)]
   have Fb:(v'.take 480++List.replicate (480-(v'.take 480).length) 0).length=480:=by
    have:(v'.take 480).length<=480:=by rw[aAN];omega
    rw[aAG,aBt];omega
   have hm:m=480:=by rw[bJ,Fb]at q1;omega
   subst hm;have htl:taken.length<=8192:=by have:=congrArg List.length hI.tot;rw[aAG]at this;omega
   obtain⟨x',SP,F',a1,a2,a3,a4⟩:=MT.append (n:=480) (bytes:=1) (T:=ai (v'.take 480++List.replicate (480-(v'.take 480).length) 0)) (by omega) (by rw[bJ,Fb]) (bB _) (fun b hb=>by have:=(hI.F b hb).2.1;omega) (by rw[bJ,bJ,Fb,aAG];simp;omega);have ame:s1.next∉F:=fun h=>by have:=(hI.F _ h).1;omega
   have ani:=(a3.keep _ (by have:=hI.bl;omega) ame).trans gbx;obtain⟨o1,o2⟩:=a2.cr;have jZ:bp [x] 0 [x']=[x']:=rfl;simp only[aA,gbx,aq,aAy,av,q2,a1,aS,aF,ani,aR,o2,jZ];refine⟨⟨rfl,by simp[o1],by simp⟩,trivial,G',rfl,x',F',taken++v'.take 480,List.replicate (480-(v'.take 480).length) 0, ?_,hq, ?_⟩
   ·have qC:∀b∈F',(b∈F\/s'.next<=b)/\b<SP.next:=fun b hb=>⟨(a4 b hb).1.imp id fun h=>by omega,(a4 b hb).2⟩;have avs:=a3.next;have WS:Kp [] st SP:=(hI.kp.trans hk (by simp)).trans a3 fun b hb=> .inr (by have:=(hI.F b hb).1;omega);have fP:∀b,st.next<=b->b∉π.all/\b≠τ:=fun b hb=>⟨fun hh=>by have:=h.pg.lt b hh;omega,fun e=>by have:=h.lt;omega⟩;have CH:Kp [s1.next] SP (St.set SP s1.next (.cells [x'] 93 false)):=(Kp.refl _ SP).set _ (.inl (by simp)) (by have:=hI.bl;omega);refine⟨?_,hC2, ?_,by have:=hI.lt;simp;omega,hI.ne,ao _ _ _,by have:=hI.bl;simp;omega, ?_,fun b hb=> ?_, ?_, ?_, ?_, ?_⟩
    ·exact(((hI.tg.still hk).vg a3 fun b hb=>fP b (by have:=(hI.F b hb).1;omega)).vg CH fun b hb=>fP b (by simp at hb;omega))
    ·rw[al _ _ _ _ hI.ne,a3.keep q (by have:=hI.lt;omega) (fun h=>(hI.F q h).2.2 rfl),hk.keep q hI.lt (by simp)];exact hI.box
    ·have e:ai (taken++v'.take 480++List.replicate (480-(v'.take 480).length) 0)=ai (taken++[])++ai (v'.take 480++List.replicate (480-(v'.take 480).length) 0):=by
      rw[<-bE];simp
     rw[e]
     exact a2.mono fun b hb=>al _ _ _ _ fun e=>by
      rcases(qC b hb).1 with h|h
      ·have:=(hI.F b h).1;omega
      ·have:=hI.bl;omega
    ·refine⟨?_,(qC b hb).2, ?_⟩
     ·rcases(qC b hb).1 with h|h
      ·exact(hI.F b h).1
      ·have:=hI.bl;omega
     ·rcases(qC b hb).1 with h|h
      ·exact(hI.F b h).2.2
      ·have:=hI.lt;omega
    ·rw[aBn,aBm];exact hI.tot
    ·intro gL
     have:480<v'.length:=by
      rcases aBT 480 v'.length with h|h
      ·exact h
      ·exact absurd (aBj h) gL
     rw[aAN,aBq (by omega)];rfl
    ·rw[aBt];omega
    ·exact WS.set _ (.inr (by omega)) (by have:=hI.bl;omega)
   ·have h3:st.next<s.next:=by have:=hI.bl;omega
    rw[al _ _ _ _ (by omega),a3.keep st.next (by omega) (fun h=>by have:=(hI.F _ h).1;omega),hk.keep st.next h3 (by simp)];exact hst
  ·intro s3 q k3 YT HC hq3;refine⟨rfl, .ae,[],[],[],⟨t2.still k3,hC,hq3,HC,by omega,(k3.keep _ (by omega) (by simp)).trans g2,by have:=k3.next;omega, .inl ⟨rfl,rfl,rfl⟩,by simp,by simp,fun _=>rfl,by simp,kH.trans k3 (by simp)⟩,by omega,(k3.keep _ (by omega) (by simp)).trans sy⟩
  ·rw[hC.len,hsz];unfold dK;rw[aAH (by omega)]
  ·omega
  ·rintro _ s3 ⟨rfl,q,G',hq,rfl,x,F,taken,pad,hI,HC,hst⟩;have Ro:=hI.tot;rw[aBz]at Ro;have kL:Sl s3 [] x 1 (ai (taken++pad)):=hI.own.sl fun b hb=>⟨by simp,(hI.F b hb).2.1⟩;have e2:aj .neq (some .int) true (I 0) (.int .i64 0) s3= .ok (.bool false) s3:=rfl;have hlen:=kL.len (taken++pad).length (by simp) (by omega) s3;have e3:aj .lss none false (I (taken++pad).length) (I c.size) s3= .ok (.bool false) s3:=by rw[dv,aAB (by rw[hsz,Ro,aAG];omega)]
   obtain⟨v',p1,p2⟩:=kL.hi (n:=(taken++pad).length) (by omega) (by simp) (h:=c.size) (by rw[hsz,Ro,aAG];omega) s3
   have yO:(ai (taken++pad)).take (c.size*1)=ai v:=by
    rw[bE,aCo,hsz,Ro,aBW (by simp)]
   rw[yO]at p2
   have alA:∀K:CV->Prop,jI (some true) 3 (.ptr st.next 0) s3 K=K (I c.size):=fun K=>by
    simp only[jI,bo];exact Fe 3 (I c.size) rfl s3 hst K
   simp only[e2,af,aH,aAz,aAO,aAT,bo,aA,hI.gbx,aq,aAy,av,hlen,alA,e3,aG,ag,Fe 3 (I c.size) rfl s3 hst,p1,p2.str];exact⟨trivial,hI.kp⟩
end
def iz (G:GM)(ps:List Nat):GM:=ps.foldl GM.drop G
structure Uy (G:GM)(ps:List Nat):Prop where
 ok:um (iz G ps)
 bP:∀q,(iz G ps).bP q↔G.bP q/\q∉ps
 free:(iz G ps).cJ=G.cJ+ps.length
 cont:∀q,(iz G ps).cont q=G.cont q
 root:(iz G ps).root=G.root
 aE:(iz G ps).aE=G.aE
theorem Un {G:GM}(h:um G){ps:List Nat}(hn:ps.Nodup)(hu:∀p∈ps,G.bP p):Uy G ps:=by
 induction ps generalizing G with
 |nil=>exact⟨h,fun q=>by simp[iz],rfl,fun _=>rfl,rfl,rfl⟩
 |cons p ps ih=>
  rw[aAQ]at hn;have hd:=sE h (hu p (by simp));have:=ih hd.ok hn.2 fun q hq=>(hd.bP q).2 ⟨hu q (by simp[hq]),fun e=>hn.1 (e▸hq)⟩;have e:iz G (p::ps)=iz (G.drop p) ps:=rfl;refine⟨by rw[e];exact this.ok,fun q=> ?_, ?_,fun q=>by rw[e,this.cont];rfl,by rw[e,this.root];rfl,by rw[e,this.aE];rfl⟩
  ·rw[e,this.bP,hd.bP];simp only[aAD,aBY];constructor
   ·rintro⟨⟨a,b⟩,c⟩;exact⟨a,b,c⟩
   ·rintro⟨a,b,c⟩;exact⟨⟨a,b⟩,c⟩
  ·rw[e,this.free,hd.free,aBb];omega
theorem FA (G:GM)(ps:List Nat)(p:Nat):iz G (ps++[p])=(iz G ps).drop p:=by unfold iz;rw[aDn];rfl
section
variable {τ:Nat} {π:PI} {st st':St} {G:GM}
theorem Bl (h:Tg τ π st G){c:dh}{v:List UInt8}{ps:List Nat}(hc:c.ok true)(hv:Bx G c v ps)(iQ:ps.Nodup):R 46 [.ptr τ 0, .agg (aU c)] st fun x st'=>x=I 0/\Kp π.W st st'/\Tg τ π st' (iz G ps):=by
 refine bN ?_;rw[w46];rw[cn,DT];refine⟨rfl, ?_⟩;have k1:Kp [] st (St.new st (.cells [.ptr τ 0] 27 false)):=(Kp.refl [] st).new _;have g1:(St.new st (.cells [.ptr τ 0] 27 false)).mem.get st.next=some (.cells [.ptr τ 0] 27 false):=au _ _;have n1:(St.new st (.cells [.ptr τ 0] 27 false)).next=st.next+1:=rfl;generalize St.new st (.cells [.ptr τ 0] 27 false)=s1 at*;rw[cn,aX];refine⟨rfl, ?_⟩;have k2:Kp [] s1 (St.new s1 (.cells (aU c) 109 false)):=(Kp.refl [] s1).new _;have g2:(St.new s1 (.cells (aU c) 109 false)).mem.get s1.next=some (.cells (aU c) 109 false):=au _ _;have n2:(St.new s1 (.cells (aU c) 109 false)).next=s1.next+1:=rfl;generalize St.new s1 (.cells (aU c) 109 false)=s2 at*;have sy:=(k2.keep st.next (by omega) (by simp)).trans g1;have kH:Kp [] st s2:=k1.trans k2 (by simp);have t2:=h.still kH;have qx:(aU c)[2]?=some (I c.dL):=rfl;simp only[fl,ah,af,aA,g2,aq,aAF,qx,av];rcases hv with⟨h0,rfl,rfl⟩|⟨h0,hsz,Du,Gr,hC⟩
 ·have e1:aj .eql (some .int) true (I c.dL) (.int .i64 0) s2= .ok (.bool true) s2:=by rw[h0];rfl
  rw[e1,af,ag,aAI rfl];exact⟨trivial,kH.mono (by simp),t2⟩
 ·have e1:aj .eql (some .int) true (I c.dL) (.int .i64 0) s2= .ok (.bool false) s2:=by rw[aw,cz,aAB (by omega)]
  simp only[e1,af,ag,aAz,aAO,sy,aq,aAy,av];rw[aQ (n:=4) g2 rfl,af,l6,af];have pZ:=h.PY;have LA:st.next∉π.W:=fun hh=>by have:=pZ _ hh;omega
  refine(IQ (st:=s2) (τ:=τ) (π:=π) (c:=c) (G:=G) (ps:=ps) (v:=v) (fun q G' pr page v' s=>∃done,G'=iz G done/\ps=done++pr/\Tg τ π s G'/\ov G' pr page v'/\s.mem.get q=some (.cells (aU c) 109 false)/\q<s.next/\st.next<=q/\s.mem.get st.next=some (.cells [.ptr τ 0] 27 false)/\Kp π.W st s) ?_ ?_ ?_ ?_ ?_).mono ?_
  ·rintro q G' pr page v' s ⟨done,_,_,a,b,c,d,_⟩;exact⟨a,b,c,d⟩
  ·rintro q G' p pr v' s nx ⟨done,rfl,e2,a1,a2,a3,a4,a5,a6,a7⟩ zb hC2 s' b hk kL;rw[dP];simp only[aBf,aBC];refine bN ?_;rw[w94]
   have hst:st.next<s.next:=by
    have:=a7.next;rcases aBT st.next s.next with h1|h1
    ·exact h1
    ·omega
   have g6:=(hk.keep st.next hst (by simp)).trans a6;have t':=a1.still hk;rw[aA,g6,aq,aAy,av];refine t'.get' ?_;have hup:(iz G done).bP p:=by obtain⟨_,_,hu,_⟩:=a2;exact hu
   refine(Cc t'.pg hup).mono ?_;rintro _ SP ⟨rfl,k'',p''⟩;have HA:=hk.next;have hnW:∀x,st.next<=x->x∉π.W:=fun x hx hh=>by have:=pZ x hh;omega
   refine⟨rfl,_,done++[p],(FA _ _ _).symm,by rw[e2];simp,t'.of k'' p'', ?_,(k''.keep q (by omega) (hnW q a5)).trans ((hk.keep q a4 (by simp)).trans a3),by have:=k''.next;omega,a5,(k''.keep st.next (by omega) LA).trans g6,(a7.trans hk (by simp)).trans k'' fun x hx=> .inl hx⟩
   have PA:p∉pr:=by
    rw[e2]at iQ;have:=(aBy.1 iQ).2.1;exact(aAQ.1 this).1
   exact hC2.kept fun x hx=>⟨fun hu=>((sE a1.pg.Uh hup).bP x).2 ⟨hu,fun e=>PA (e▸hx)⟩,rfl⟩
  ·intro s3 q k3 YT HC hq3;refine⟨[],rfl,rfl,t2.still k3,hC,hq3,HC,by omega,(k3.keep _ (by omega) (by simp)).trans sy,(kH.mono (by simp)).trans k3 (by simp)⟩
  ·rw[hC.len,hsz];unfold dK;rw[aAH (by omega)]
  ·omega
  ·rintro _ s3 ⟨rfl,q,G',_,done,rfl,e2,a1,_,_,_,_,_,a7⟩;rw[aBz]at e2;subst e2;exact⟨rfl,a7,a1⟩
theorem Er {n:Nat}(hn:n<=100000)(s:St):qm 5 1 [.int .u8 0] (I n) (I n) s= .ok (.slice s.next 0 n n 0) (St.new s (.cells (ai (List.replicate n 0)) 5 false)):=by
 have e:qm 5 1 [.int .u8 0] (I n) (I n) s=bu (Bool.and (Nat.ble n n) (Bool.and (Nat.ble (Nat.mul 1 n) 281474976710656) (Nat.ble n 9223372036854775807)))
  (.ok (.slice s.next 0 n n 0) ⟨s.mem.put s.next (some (.cells (cH n [.int .u8 0]) 5 false)),s.next+1⟩) .bad:=rfl
 have e1:Nat.mul 1 n=n:=aCH n;rw[e,LS,aO,aAI (by simp only[aAV,aBe,e1];omega)];rfl
theorem Et {b off n cap:Nat}{d:List UInt8}{L:List CV}{t:TypeId}{g:Bool}{s:St}(hb:s.mem.get b=some (.cells L t g))(hn:d.length<=n)(hl:off+d.length<=L.length):
 ∃s',gj true 1 (.slice b off n cap 0) (.str d) s= .ok (I d.length) s'/\s'.next=s.next/\s'.mem.get b=some (.cells (bp L off (ai d)) t g)/\∀q,q≠b->s'.mem.get q=s.mem.get q:=by
 have e:gj true 1 (.slice b off n cap 0) (.str d) s=(match cellsOf true 1 (min d.length n) (.str d) s with
  |some t=>bu (Nat.beq (min d.length n) 0) (xC .i64 s 0)
   (bu (Bool.and (aV t) (Bool.or (Nat.beq 0 0) (Nat.ble 1 cap)))
    (match s.mem.get b with
    |some (.cells l ty g)=>Option.rec (Option.rec .bad (fun s'=>xC .i64 ⟨s.mem.put b (some (.cells s' ty g)),s.next⟩ (min d.length n)) (Ar l off t (off+cap*0))) (fun s'=>xC .i64 ⟨s.mem.put b (some (.cells s' ty g)),s.next⟩ (min d.length n)) (dQ l off t)
    |_=> .bad) .bad)
  |none=> .bad):=rfl
 have ec:cellsOf true 1 d.length (.str d) s=some (ai d):=by
  have:cellsOf true 1 d.length (.str d) s=if d.length<=d.length then some ((d.take d.length).map bO)else none:=rfl
  rw[this,aAI (aAE _),List.take_length];rfl
 rw[e,aBq hn,ec];dsimp only
 by_cases h0:d.length=0
 ·have:d=[]:=aBa.1 h0;subst this;refine⟨s,rfl,rfl, ?_,fun _ _=>rfl⟩;rw[hb];have:bp L off (ai [])=L:=yx L off;rw[this]
 ·have Gv:Nat.beq d.length 0=false:=by cases h:Nat.beq d.length 0 with|false=>rfl|true=>rw[aBi]at h;omega
  have e3:dQ L off (ai d)=some (bp L off (ai d)):=by unfold dQ;rw[aAI (by rw[bJ];exact hl)];rfl
  rw[Gv,bB,hb];dsimp only;rw[e3];exact⟨St.set s b (.cells (bp L off (ai d)) t g),rfl,rfl,ao _ _ _,fun q hq=>al _ _ _ _ hq⟩
theorem VI (h:Tg τ π st G){x1 x8 oV:Nat}{d:List UInt8}{ty:TypeId}{g:Bool}(hf:0<G.cJ)(h1:st.mem.get x1=some (.cells [.ptr τ 0] ty g))(h8:st.mem.get x8=some (.cells [I oV] 3 false))(l1:x1<st.next)(l8:x8<st.next)(w1:x1∉π.all)(w8:x8∉π.all)(hτ:x8≠τ)(gL:x1≠x8)(hd:d.length<=480)(Ao:oV<=pT):
 R 96 [.str d, .ptr x1 0, .ptr x8 0] st fun x st'=>x=I 0/\Kp (x8::π.W) st st'/\Tg τ π st' (G.alloc.put G.dS (.dL oV d))/\st'.mem.get x8=some (.cells [I G.dS] 3 false):=by
 refine bN ?_;rw[w96];rw[aA,h1,aq,aAy,av];refine h.get' ?_;refine(IF h.pg hf).mono ?_;rintro _ s1 ⟨rfl,k1,p1⟩;have t1:=h.of k1 p1;have ha:=sM h.pg.Uh hf;have nW1:x1∉π.W:=fun hh=>w1 (PI.Bw hh);have nW8:x8∉π.W:=fun hh=>w8 (PI.Bw hh);have g1:=(k1.keep x1 l1 nW1).trans h1;have g8:=(k1.keep x8 l8 nW8).trans h8;have n1:=k1.next;have e1:aj .neq (some .int) true (I 0) (.int .i64 0) s1= .ok (.bool false) s1:=rfl;have emk:=Er (n:=512) (by omega) s1;have anP:qm 5 1 [.int .u8 0] (.int .i64 512) (.int .i64 512) s1= .ok (.slice s1.next 0 512 512 0) (St.new s1 (.cells (ai (List.replicate 512 0)) 5 false)):=emk;simp only[aD,aN,af,e1,ag,aAz,aAO,anP,aS,bt];have k2:Kp [] s1 (St.new s1 (.cells (ai (List.replicate 512 0)) 5 false)):=(Kp.refl [] s1).new _;have gb:(St.new s1 (.cells (ai (List.replicate 512 0)) 5 false)).mem.get s1.next=some (.cells (ai (List.replicate 512 0)) 5 false):=au _ _;have n2:(St.new s1 (.cells (ai (List.replicate 512 0)) 5 false)).next=s1.next+1:=rfl;generalize St.new s1 (.cells (ai (List.replicate 512 0)) 5 false)=s2 at*;have Zi:=(k2.keep x8 (by omega) (by simp)).trans g8;have sy:=(k2.keep x1 (by omega) (by simp)).trans g1;have t2:=t1.still k2;have esl:aL 1 (.slice s1.next 0 512 512 0) none (some (.int .i64 4)) s2= .ok (.slice s1.next 0 4 512 0) s2:=rfl;simp only[esl,af,aA,Zi,aq,aAy,av];refine(Ql (b:=s1.next) (off:=0) (len:=4) (cap:=512) (n:=oV) gb (by omega) (by simp) (by omega) (by have:oV<=2147483647:=Ao;omega)).mono ?_;rintro _ s3 ⟨k3,n3,g3⟩
 have qA:bp (ai (List.replicate 512 0)) 0 (ai (be 4 oV))=ai (be 4 oV)++ai (List.replicate 508 0):=by
  unfold bp;rw[aCr,aBf,bJ,gU]
  congr 1
 rw[qA]at g3;have anO:aL 1 (.slice s1.next 0 512 512 0) (some (.int .i64 4)) none s3= .ok (.slice s1.next 4 508 508 0) s3:=rfl;have Jh:(ai (be 4 oV)++ai (List.replicate 508 0)).length=512:=by rw[aAG,bJ,bJ,gU,aBt]
 obtain⟨s4,c1,c2,c3,c4⟩:=Et (b:=s1.next) (off:=4) (n:=508) (cap:=508) (d:=d) g3 (by omega) (by omega)
 have kG:bp (ai (be 4 oV)++ai (List.replicate 508 0)) 4 (ai d)=ai (ik (.dL oV d)):=by
  have e:=oU (ai (be 4 oV)) (ai (List.replicate 508 0)) (ai d);rw[bJ,gU]at e;rw[e];unfold ik;rw[bE,bE]
  congr 2
  unfold ai;rw[<-aBZ,aCJ,aBJ]
 rw[kG]at c3;have g83:s3.mem.get x8=some (.cells [I oV] 3 false):=(k3.keep x8 (by omega) (by simp;omega)).trans Zi;have g84:s4.mem.get x8=some (.cells [I oV] 3 false):=(c4 x8 (by omega)).trans g83;have LM:s4.mem.get x1=some (.cells [.ptr τ 0] ty g):=(c4 x1 (by omega)).trans ((k3.keep x1 (by omega) (by simp;omega)).trans sy);have CK:bp [I oV] 0 [I G.dS]=[I G.dS]:=rfl;simp only[Zi,aq,aAy,av,aCC,anO,af,c1,aS,aF,g84,aR,iC,CK];refine⟨⟨rfl,rfl,by simp⟩, ?_⟩;have k4:Kp [s1.next] s3 s4:=⟨by omega,fun q hq hn=>c4 q (by simpa using hn),fun iE q hq=>by rw[c4 q (by omega)];exact iE q (by omega)⟩;have k5:Kp [x8] s4 (St.set s4 x8 (.cells [I G.dS] 3 false)):=(Kp.refl _ s4).set _ (.inl (by simp)) (by omega);have g85:(St.set s4 x8 (.cells [I G.dS] 3 false)).mem.get x8=some (.cells [I G.dS] 3 false):=ao _ _ _;have g15:(St.set s4 x8 (.cells [I G.dS] 3 false)).mem.get x1=some (.cells [.ptr τ 0] ty g):=(al _ _ _ _ gL).trans LM;have gb5:(St.set s4 x8 (.cells [I G.dS] 3 false)).mem.get s1.next=some (.cells (ai (ik (.dL oV d))) 5 false):=(al _ _ _ _ (by omega)).trans c3;have n5:(St.set s4 x8 (.cells [I G.dS] 3 false)).next=s3.next:=c2;generalize St.set s4 x8 (.cells [I G.dS] 3 false)=s5 at*;have fP:s1.next∉π.all/\s1.next≠τ:=⟨fun hh=>by have:=h.pg.lt _ hh;omega,fun e=>by have:=h.lt;omega⟩;have Pu:Kp [s1.next,x8] s2 s5:=((k3.mono (by simp)).trans k4 (by simp)).trans k5 (by simp)
 have t5:=t2.vg Pu fun b hb=>by
  simp at hb;rcases hb with rfl|rfl
  ·exact fP
  ·exact⟨w8,hτ⟩
 simp only[aA,g15,aq,aAy,av];refine t5.get' ?_;have akN:s1.next<s5.next:=by omega
 have vi:=GQ (nx:=oV) (d:=d) (by omega)
 have kL:Sl s5 [π.bn,π.bc] (.slice s1.next 0 512 512 0) 1 (ai (ik (.dL oV d))):= .inr ⟨s1.next,0,512,512,0,rfl,by rw[bJ,vi],⟨aAE _, .inl rfl⟩, .inr ⟨fun hh=>by
  have:s1.next∈π.W:=by unfold PI.W;simp at hh;rcases hh with h|h<;>simp[h]
  exact fP.1 (PI.Bw this),akN,_,_,_,gb5,by rw[bJ,vi];omega,by rw[aBg,aAK (by rw[bJ,vi];omega)]⟩⟩
 refine(IE t5.pg ((ha.bP _).2 (.inr rfl)) kL vi).mono ?_;rintro _ s6 ⟨rfl,k6,p6⟩;have pe:Kp [s1.next,x8] s1 s5:=(k2.mono (by simp)).trans Pu (by simp);refine⟨rfl, ?_,t5.of k6 p6,(k6.keep x8 (by omega) nW8).trans g85⟩;refine((k1.mono (by intro q hq;simp[hq])).trans pe (by intro q hq;simp at hq;rcases hq with rfl|rfl;right;omega;left;simp)).trans k6 (by intro q hq;simp[hq])
end
