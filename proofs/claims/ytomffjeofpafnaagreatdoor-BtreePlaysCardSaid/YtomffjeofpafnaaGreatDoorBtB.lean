import Derived.Test.YtomffjeofpafnaaGreatDoorBtA
namespace Lim
open Go
noncomputable section
set_option maxRecDepth 100000
section
variable {τ:Nat} {π:PI} {st st':St} {G:GM}
theorem Cg {d:List UInt8}{lo hi:Nat}(h1:lo<=hi)(h2:hi<=d.length)(s:St):ki (.str d) (some (I lo)) (some (I hi)) s= .ok (.str ((d.drop lo).take (hi-lo))) s:=by
 unfold ki;dsimp only;rw[pk,aAI ⟨h1,h2⟩]
structure Yj (G G':GM)(c:dh)(v:List UInt8)(pc:List Nat):Prop where
 ok:um G'
 val:Bx G' c v pc
 nd:pc.Nodup
 new:∀x∈pc,¬G.bP x
 kept:∀qs,(∀x∈qs,G.bP x)->Kept G G' qs
 root:G'.root=G.root
 free:G'.cJ+dK v.length=G.cJ
 aE:G'.aE=G.aE
structure Yi (τ:Nat)(π:PI)(st:St)(G:GM)(v:List UInt8)(x8:Nat)(j:Nat)(s:St)(G':GM)(IG:List Nat)(oV:Nat):Prop where
 tg:Tg τ π s G'
 g8:s.mem.get x8=some (.cells [I oV] 3 false)
 chain:ov G' IG oV (v.drop (j*480))
 len:IG.length+j=(v.length+479)/480
 nd:IG.Nodup
 new:∀x∈IG,¬G.bP x
 kept:∀qs,(∀x∈qs,G.bP x)->Kept G G' qs
 root:G'.root=G.root
 free:G'.cJ+IG.length=G.cJ
 aE:G'.aE=G.aE
 kp:Kp (x8::π.W) st s
theorem Md (h:Tg τ π st G){key v:List UInt8}(hk:key.length<=48)(hv:v.length<=8192)(hf:dK v.length<=G.cJ):R 47 [.ptr τ 0, .str key, .str v] st fun x st'=>Kp π.W st st'/\∃c G' pc,x= .tuple [.agg (aU c),I 0]/\c.key=key/\c.ok true/\Yj G G' c v pc/\Tg τ π st' G':=by
 refine bN ?_;rw[w47];rw[cn,DT];refine⟨rfl, ?_⟩;have k1:Kp [] st (St.new st (.cells [.ptr τ 0] 27 false)):=(Kp.refl [] st).new _;have g1:(St.new st (.cells [.ptr τ 0] 27 false)).mem.get st.next=some (.cells [.ptr τ 0] 27 false):=au _ _;have n1:(St.new st (.cells [.ptr τ 0] 27 false)).next=st.next+1:=rfl;generalize St.new st (.cells [.ptr τ 0] 27 false)=s1 at*;have k2:Kp [] s1 (St.new s1 (.cells [.str [], .str [], .int .i64 0, .int .i64 0] 109 false)):=(Kp.refl [] s1).new _;have g2:(St.new s1 (.cells [.str [], .str [], .int .i64 0, .int .i64 0] 109 false)).mem.get s1.next=some (.cells [.str [], .str [], .int .i64 0, .int .i64 0] 109 false):=au _ _;have n2:(St.new s1 (.cells [.str [], .str [], .int .i64 0, .int .i64 0] 109 false)).next=s1.next+1:=rfl;rw[cG,aS];generalize St.new s1 (.cells [.str [], .str [], .int .i64 0, .int .i64 0] 109 false)=s2 at*;have sy:=(k2.keep st.next (by omega) (by simp)).trans g1;have kH:Kp [] st s2:=k1.trans k2 (by simp);have t2:=h.still kH;rw[fe,af];refine(Ce (n:=v.length) (by omega)).same ?_
 by_cases Gx:v.length<=64
 ·have e0:dK v.length=0:=by unfold dK;rw[aAI Gx]
  have e1:aj .eql (some .int) true (I (dK v.length)) (.int .i64 0) s2= .ok (.bool true) s2:=by rw[e0];rfl
  have mC:bD [.str [], .str [], .int .i64 0, .int .i64 0] [(0,1, .str key),(1,1, .str v)] s2= .ok (.agg (aU ⟨key,v,0,0⟩)) s2:=rfl;have jZ:bp [.str [], .str [], .int .i64 0, .int .i64 0] 0 (aU ⟨key,v,0,0⟩)=aU ⟨key,v,0,0⟩:=dY _ _ rfl;rw[e1,af,ag,aAI rfl,mC,af,aF,g2,aR,aX,jZ];refine⟨⟨rfl,rfl,by simp⟩, ?_⟩;rw[aQ (n:=4) (ao _ _ _) rfl,af];have k3:Kp [s1.next] s2 (St.set s2 s1.next (.cells (aU ⟨key,v,0,0⟩) 109 false)):=(Kp.refl _ s2).set _ (.inl (by simp)) (by omega);refine⟨(kH.mono (by simp)).set _ (.inr (by omega)) (by omega),⟨key,v,0,0⟩,G,[],rfl,rfl,⟨hk,fun h=>(by cases h),fun _ _=>⟨rfl,Gx⟩,fun _ h=>absurd rfl h⟩,⟨h.pg.Uh, .inl ⟨rfl,rfl,rfl⟩,by simp,by simp,fun qs _ q _=>⟨id,rfl⟩,rfl,by rw[e0];rfl,rfl⟩,t2.vg k3 fun b hb=> ?_⟩;simp at hb;subst hb;exact⟨fun hh=>by have:=h.pg.lt _ hh;omega,fun e=>by have:=h.lt;omega⟩
 ·have e0:dK v.length=(v.length+479)/480:=by unfold dK;rw[aAH Gx]
  have e1:aj .eql (some .int) true (I (dK v.length)) (.int .i64 0) s2= .ok (.bool false) s2:=by rw[aw,cz,aAB (by omega)]
  rw[e1,af,ag,aAH (by decide)]
  have Nr:∀K:CV->St->Prop,(upon (dD 3 [.int .i64 0] s2) fun x8 s5=>upon (aP 1 x8 (.int .i64 0) s5) fun _ s6=>K x8 s6)=K (.ptr s2.next 0) (St.new s2 (.cells [I ((0:Nat):Int)] 3 false)):=by
   intro K;have jZ:bp [.int .i64 0] 0 [.int .i64 0]=[I ((0:Nat):Int)]:=rfl;rw[cG,aS,aF,au,aR,iC,Ix,jZ];simp
  rw[Nr];have k3:Kp [] s2 (St.new s2 (.cells [I ((0:Nat):Int)] 3 false)):=(Kp.refl [] s2).new _;have g3:(St.new s2 (.cells [I ((0:Nat):Int)] 3 false)).mem.get s2.next=some (.cells [I ((0:Nat):Int)] 3 false):=au _ _;have n3:(St.new s2 (.cells [I ((0:Nat):Int)] 3 false)).next=s2.next+1:=rfl;generalize St.new s2 (.cells [I ((0:Nat):Int)] 3 false)=s3 at*;have ku:Kp [] st s3:=kH.trans k3 (by simp);have qa:=(k3.keep st.next (by omega) (by simp)).trans sy;have HV:=(k3.keep s1.next (by omega) (by simp)).trans g2;have t3:=t2.still k3;have pZ:=h.PY;have fP:∀b,st.next<=b->b∉π.all/\b≠τ:=fun b hb=>⟨fun hh=>by have:=h.pg.lt b hh;omega,fun e=>by have:=h.lt;omega⟩;have hnW:∀b,st.next<=b->b∉π.W:=fun b hb hh=>by have:=pZ b hh;omega
  rw[l6,af,cN];have es1:aj .sub none true (I (dK v.length)) (.int .i64 1) s3= .ok (I ((dK v.length:Int)-1)) s3:=by rw[aw,dW,bz (by omega)]
  rw[es1,af];simp only[aJ,aK];rw[e0]
  refine bK (fun fu vs s=>vs=[.str key, .str v, .ptr s1.next 0, .ptr s2.next 0, .func (.func 96) [] [.ptr st.next 0, .ptr s2.next 0],I ((fu:Int)-1)]/\∃G' IG oV,Yi τ π s3 G v s2.next fu s G' IG oV) ?_ (n:=(v.length+479)/480)
   ⟨rfl,G,[],0,⟨t3,g3,⟨rfl,aBj (by omega)⟩,by simp,by simp,by simp,fun qs _ q _=>⟨id,rfl⟩,rfl,rfl,rfl,Kp.refl _ _⟩⟩
  rintro fu vs s k ⟨rfl,G',IG,oV,hI⟩ next;have HA:=hI.kp.next;have gx1:=(hI.kp.keep st.next (by omega) (by simp only[aAD,aBY];exact⟨by omega,hnW _ (aAE _)⟩)).trans qa;have gx2:=(hI.kp.keep s1.next (by omega) (by simp only[aAD,aBY];exact⟨by omega,hnW _ (by omega)⟩)).trans HV;have hlen:=hI.len;simp only[aJ,aK]
  by_cases hc:0<fu
  ·obtain⟨j,rfl⟩:∃j,fu=j+1:=⟨fu-1,by omega⟩;have ei:(((j+1:Nat):Int)-1)=((j:Nat):Int):=by omega
   rw[ei];have aqa:j*480<v.length:=by omega
   have a1:aj .geq none true (I j) (.int .i64 0) s= .ok (.bool true) s:=by rw[aw,yq,aAJ (by omega)]
   have a2:aj .mul none true (I j) (.int .i64 480) s= .ok (I ((j*480:Nat):Int)) s:=by rw[aw,jR,bz (by omega)];rfl
   have a3:aj .mul none true (I ((j+1:Nat):Int)) (.int .i64 480) s= .ok (I (((j+1)*480:Nat):Int)) s:=by rw[aw,jR,bz (by omega)];rfl
   have a4:AW false (I v.length) (I (((j+1)*480:Nat):Int)) s= .ok (I ((min v.length ((j+1)*480):Nat):Int)) s:=by
    have e:AW false (I v.length) (I (((j+1)*480:Nat):Int)) s= .ok (I (if (((j+1)*480:Nat):Int)<(v.length:Int)then (((j+1)*480:Nat):Int)else (v.length:Int))) s:=rfl;rw[e];congr 2;split<;>omega
   have a5:=Cg (d:=v) (lo:=j*480) (hi:=min v.length ((j+1)*480)) (by omega) (by omega) s
   have RS:(v.drop (j*480)).take (min v.length ((j+1)*480)-j*480)=(v.drop (j*480)).take 480:=by
    by_cases hm:(j+1)*480<=v.length
    ·rw[Nat.min_eq_right hm];congr 1;omega
    ·rw[aBq (by omega),aAK (by rw[aAX];omega),aAK (by rw[aAX];omega)]
   rw[RS]at a5;rw[a1,af,ag,aAI rfl];simp only[a2,af,fe,gF j (by omega),a3,a4,a5,dP,aBf,aBC]
   have Fa:0<G'.cJ:=by
    have:=hI.free;rw[e0]at hf;omega
   have Ao:oV<=pT:=by
    have hC:=hI.chain;cases IG with
    |nil=>obtain⟨rfl,_⟩:=hC;exact aDp _
    |cons p pr=>obtain⟨rfl,_,hu,_⟩:=hC;exact qN hI.tg.pg.Uh hu
   have ha:=sM hI.tg.pg.Uh Fa;refine(VI hI.tg Fa gx1 hI.g8 (by omega) (by omega) (fP _ (aAE _)).1 (fP _ (by omega)).1 (fP _ (by omega)).2 (by omega) (d:=(v.drop (j*480)).take 480) (by rw[aAN];omega) Ao).mono ?_;rintro _ s9 ⟨rfl,k9,t9,g9⟩;have e5:aj .neq (some .int) true (I 0) (.int .i64 0) s9= .ok (.bool false) s9:=rfl;have e6:aj .sub none true (I j) (.int .i64 1) s9= .ok (I ((j:Int)-1)) s9:=by rw[aw,dW,bz (by omega)]
   simp only[e5,af,ag,aAz,aAO,e6];have akj:∀x∈IG,G'.bP x:=hI.chain.aE;have PA:G'.dS∉IG:=fun hh=>ha.not (akj _ hh);have qI:(v.drop (j*480)).drop 480=v.drop ((j+1)*480):=by rw[aCU];congr 1;omega
   refine next j _ _ (by omega) ⟨rfl,G'.alloc.put G'.dS (.dL oV ((v.drop (j*480)).take 480)),G'.dS::IG,G'.dS,t9,g9,⟨rfl, ?_,(ha.bP _).2 (.inr rfl),oV,l5 _ _ _,Ao, ?_⟩,by rw[aBb];omega,aAQ.2 ⟨PA,hI.nd⟩, ?_, ?_,ha.root.trans hI.root, ?_,ha.aE.trans hI.aE,hI.kp.trans k9 fun q hq=> .inl hq⟩
   ·intro e;have:=congrArg List.length e;rw[aAX]at this;simp at this;omega
   ·rw[qI];exact hI.chain.kept ((ua ha PA).trans (kV PA))
   ·intro x hx;rcases aAD.1 hx with rfl|hx
    ·intro hu;have:=((hI.kept [G'.dS] (by simpa using hu)) G'.dS (by simp)).1 hu;exact ha.not this
    ·exact hI.new x hx
   ·intro qs Ws;have h1:=hI.kept qs Ws;have hq:G'.dS∉qs:=fun hh=>ha.not ((h1 _ hh).1 (Ws _ hh));exact(h1.trans (ua ha hq)).trans (kV hq)
   ·have h1:=ha.free;have h2:=hI.free;rw[aBb];show G'.alloc.cJ+_=_;omega
  ·have TL:fu=0:=by omega
   subst TL;have a1:aj .geq none true (I (((0:Nat):Int)-1)) (.int .i64 0) s= .ok (.bool false) s:=rfl;have mC:bD [.str [], .str [], .int .i64 0, .int .i64 0] [(0,1, .str key),(2,1,I oV),(3,1,I v.length)] s= .ok (.agg (aU ⟨key,[],oV,v.length⟩)) s:=rfl;have jZ:bp [.str [], .str [], .int .i64 0, .int .i64 0] 0 (aU ⟨key,[],oV,v.length⟩)=aU ⟨key,[],oV,v.length⟩:=dY _ _ rfl;rw[a1,af,ag,aAH (by decide),aA,hI.g8,aq,aAy,av,fe,af,mC,af,aF,gx2,aR,aX,jZ];refine⟨⟨rfl,rfl,by simp⟩, ?_⟩;rw[aQ (n:=4) (ao _ _ _) rfl,af];have k9:Kp [s1.next] s (St.set s s1.next (.cells (aU ⟨key,[],oV,v.length⟩) 109 false)):=(Kp.refl _ s).set _ (.inl (by simp)) (by omega);have hC:=hI.chain;rw[aDq,aBg]at hC
   have Wx:oV≠0/\oV<=pT:=by
    cases IG with
    |nil=>obtain⟨_,h2⟩:=hC;rw[h2]at Gx;simp at Gx
    |cons p pr=>obtain⟨rfl,_,hu,_⟩:=hC;exact⟨by have:=hu.1;omega,qN hI.tg.pg.Uh hu⟩
   refine⟨((ku.mono (by simp)).trans hI.kp fun q hq=> ?_).trans k9 (by intro q hq;simp at hq;right;omega),⟨key,[],oV,v.length⟩,G',IG,rfl,rfl,⟨hk,fun h=>(by cases h),fun _ h=>absurd h Wx.1,fun _ _=>⟨rfl,Wx.2,by show 1<=v.length;omega,by show v.length<=2147483647;omega⟩⟩,⟨hI.tg.pg.Uh, .inr ⟨Wx.1,rfl,by omega,hv,hC⟩,hI.nd,hI.new,hI.kept,hI.root,by rw[e0,<-hI.free];omega,hI.aE⟩,hI.tg.vg k9 fun b hb=> ?_⟩
   ·rcases aAD.1 hq with rfl|hq
    ·right;omega
    ·exact .inl hq
   ·simp at hb;subst hb;exact fP _ (by omega)
end
section
variable {τ:Nat} {π:PI} {st st':St} {G:GM}
theorem eP.len {X:List Nat}{x:CV}{l:List cO}(h:eP st X x l)(s:St):bh .slice x s= .ok (I l.length) s:=by
 obtain⟨rows,a,b⟩:=h;rw[a.len rows.length (fw b.w) (by omega) s,b.len]
theorem eP.row {X:List Nat}{x:CV}{l:List cO}(h:eP st X x l){i:Nat}(hi:i<l.length):∃vc vk,Sl st X vc 4 (bC l[i].n.cells)/\Sl st X vk 1 (ck l[i].n.kids)/\∀Q:CV->Prop,Q (.agg [I l[i].page,I l[i].at_, .bool l[i].n.leaf,vc,vk])->Lim.iT 5 5 x (I i) st Q:=by
 obtain⟨rows,a,b⟩:=h;obtain⟨fv,vc,vk,e,c,d⟩:=b.at hi;refine⟨vc,vk,c,d,fun Q hQ=> ?_⟩;refine a.iT (by omega) b.w fv Q ?_;rw[e];exact hQ
theorem uk.size {key:cc}{f:cO}{rest:List cO}{L:List bA}(h:uk G key f rest L):f.n.cells.length<=512/\f.n.ok/\f.n.leaf=true/\f.at_=f.n.find key/\f.at_<=f.n.cells.length:=by
 obtain⟨lo,hi,Ll,Lr,Lm,ps,q,h1,h2,h3,h4,h5,h6,h7,h8⟩:=h;have:=eR f.n.leaf f.n.cells;have hs:=h2.size;rw[bX]at hs;exact⟨by omega,h2.ok,h3.leaf,h8,by rw[h8];exact aCM⟩
theorem nT {s:St}{p a:Nat}{leaf:Bool}{vc vk:CV}{K:CV->St->Prop}(h1:cr vc=true)(h2:cr vk=true)(hK:K (.ptr s.next 0) (St.new s (.cells [I p,I a, .bool leaf,vc,vk] 107 false))):
 upon (dD 107 [.int .i64 0, .int .i64 0, .bool false, .ae, .ae] s) fun x s2=>upon (aP 5 x (.agg [I p,I a, .bool leaf,vc,vk]) s2) fun _ s3=>K x s3:=tn rfl rfl (by simp[h1,h2]) hK
theorem XM (h:Tg τ π st G){L:List bA}(ht:ic G L)(key:cc):R 13 [.ptr τ 0, .str key] st fun x st'=>Kp [] st st'/\x=if 48<key.length then .tuple [.str [], .bool false,I 1]else .tuple [.str ((kJ L key).getD []), .bool (kJ L key).isSome,I 0]:=by
 refine bN ?_;rw[w13];have e0:aj .gtr none true (I key.length) (.int .i64 48) st= .ok (.bool (decide (48<key.length))) st:=by rw[aw,dq];congr 2;simp only[aBc];omega
 rw[cU,af,ag,aAH (by decide),fe,af,e0,af,ag]
 by_cases xF:48<key.length
 ·rw[aAJ xF,aAI rfl,aAI xF];exact⟨Kp.refl _ _,rfl⟩
 ·rw[aAB xF,aAH (by decide),aAH xF];refine(Cd h ht key).mono ?_;rintro _ s1 ⟨k1,x,rfl,hx⟩;have t1:=h.still k1;have e1:aj .neq (some .int) true (I 0) (.int .i64 0) s1= .ok (.bool false) s1:=rfl;simp only[aD,aN,af,e1,aH,aAz,aAO,aAT,bo];rcases hx with⟨sr,rfl⟩|⟨f,rest,hp,yR,hst⟩
  ·have hL:L=[]:=by
    rcases ht.tree with h|⟨hh,ps,_,hs⟩
    ·exact h.2
    ·obtain⟨n,q,hn,_⟩:=hs;have:=hn.bP.1;omega
   subst hL;have e2:aj .eql (some .int) true (.int .i64 0) (.int .i64 0) s1= .ok (.bool true) s1:=rfl;simp only[uP,af,e2,aG,aAz,aAO,ag,aAY];exact⟨k1,rfl⟩
  ·obtain⟨qx,yW,fV,pz,HP⟩:=hp.size;have Nr:=hst [] (by simp);have wb:(rest.reverse++[f]).length=rest.length+1:=by simp
   have hlen:=Nr.len s1;rw[wb]at hlen;have e2:aj .eql (some .int) true (I ((rest.length+1:Nat):Int)) (.int .i64 0) s1= .ok (.bool false) s1:=by rw[aw,cz,aAB (by omega)]
   have e3:=xS (rest.length+1) (by omega) (by omega) s1 none;rw[aBX]at e3;obtain⟨vc,vk,c1,c2,jg⟩:=Nr.row (i:=rest.length) (by simp);have hf:(rest.reverse++[f])[rest.length]'(by simp)=f:=by simp
   rw[hf]at c1 c2 jg;simp only[hlen,af,e2,aG,aAz,aAO,ag,e3];refine jg _ ?_;refine nT c1.bG.2.1 c2.bG.2.1 ?_;have k3:Kp [] s1 (St.new s1 (.cells [I f.page,I f.at_, .bool f.n.leaf,vc,vk] 107 false)):=(Kp.refl [] s1).new _;have g3:(St.new s1 (.cells [I f.page,I f.at_, .bool f.n.leaf,vc,vk] 107 false)).mem.get s1.next=some (.cells [I f.page,I f.at_, .bool f.n.leaf,vc,vk] 107 false):=au _ _;generalize St.new s1 (.cells [I f.page,I f.at_, .bool f.n.leaf,vc,vk] 107 false)=s3 at*;have t3:=t1.still k3;have X6:=c1.mono k3;have ku:Kp [] st s3:=k1.trans k3 (by simp);obtain⟨lo,hi,Ll,Lr,ps,Lt,pt,Ld,pd,hA⟩:=hp.CC;have e4:aj .eql (some .int) false (I f.at_) (I f.n.cells.length) s3= .ok (.bool (decide (f.at_=f.n.cells.length))) s3:=by rw[aw,cz];congr 2;simp only[aBc];omega
   simp only[fl,ah,af,aA,g3,aq,aAF,Nat.reduceAdd,aAA,aAy,av,X6.len f.n.cells.length (bL _) (by omega) s3,e4]
   by_cases CS:f.at_=f.n.cells.length
   ·obtain⟨_,qw,_⟩:=hA.EI (fun c hc=>by rw[CS,aBs (aAE _)]at hc;cases hc);rw[aAJ CS,qw];simp only[aH,aAz,aAO,aAU,cB,af,jI,ft,aG,aAY,ag];exact⟨ku,rfl⟩
   ·have hlt:f.at_<f.n.cells.length:=by omega
    rw[aAB CS];obtain⟨b,p,l,t,g,q1,q2,q3,q4,q5⟩:=X6.cellAt (L:=f.n.cells.map aU) (by omega) (fJ _) (i:=f.at_) (by simpa using hlt);have q6:=q5 0 (.str f.n.cells[f.at_].key) (by simp[aU]);rw[aBl]at q6;simp only[aH,aAz,aAO,aAT,bo,af,jI,ft,ah,aA,g3,aq,aAF,aBl,Nat.reduceAdd,aAA,aAy,av,q1,q2,q6,dX,kQ,aG,ag]
    by_cases hk:f.n.cells[f.at_].key=key
    ·obtain⟨w,po,vF,zL,v1,v2,v3,v4,v5,v6⟩:=hA.found (aAC hlt) hk;rw[aAJ hk,aAU,aAH (by decide)];refine X6.iT (L:=f.n.cells.map aU) (by omega) (fJ _) (by simpa using hlt) _ ?_;have e:(f.n.cells.map aU)[f.at_]'(by simpa using hlt)=aU f.n.cells[f.at_]:=by simp
     rw[e];have CW:=yW.cell _ (aAW hlt);rw[fV]at CW;refine(DG t3 CW v1).mono ?_;rintro _ s4 ⟨rfl,k4⟩;have e5:aj .eql (some .int) true (I 0) (.int .i64 0) s4= .ok (.bool true) s4:=rfl;simp only[aD,aN,af,e5];rw[v6];exact⟨ku.trans k4 (by simp),rfl⟩
    ·obtain⟨_,qw,_⟩:=hA.EI (fun c hc=>by rw[aAC hlt]at hc;cases hc;exact hk);rw[aAB hk,aAT,aAI rfl,qw];exact⟨ku,rfl⟩
end
section
variable {τ:Nat} {π:PI} {st st':St} {G:GM}
theorem Sl.Ca {X:List Nat}{v:CV}{k n m:Nat}{L:List CV}(hs:Sl st X v k L)(hk:0<k)(hn:L.length=n*k)(h0:0<n)(hm:m<=n)(s:St):∃v',iv k v none (I m) (I m) s= .ok v' s/\Sl st X v' k (L.take (m*k)):=by
 rcases hs with⟨rfl,rfl⟩|⟨b,off,len,cap,grow,rfl,g2,g3,g4⟩
 ·have:0<n*k:=Nat.mul_pos h0 hk;simp at hn;omega
 ·have:len=n:=aBG hk (by rw[<-g2,hn]);subst this;have RC:m*k<=len*k:=aBu k hm
  have e:iv k (.slice b off len cap grow) none (I m) (I m) s=(if m=0 then .ok (.slice b off 0 0 0) s else .ok (.slice b off m m 0) s):=by
   unfold iv;dsimp only;rw[sK,aAI (by omega)];dsimp only;rw[sJ,aAI (aAE _)];simp only[dE,aO,aBB,aBe,aBi];rw[aAI (.inr (by omega))];have e1:Nat.sub m 0=m:=rfl;have e2:Nat.add off (Nat.mul 0 k)=off:=by simp
   rw[e1,e2]
   by_cases Kw:m=0
   ·rw[aAI Kw,aAI Kw,Kw]
   ·rw[aAH Kw,aAH Kw]
  rw[e]
  by_cases Kw:m=0
  ·subst Kw;exact⟨_,by rw[aAI rfl], .inr ⟨b,off,0,0,0,rfl,by simp,⟨aAE _, .inl rfl⟩, .inl rfl⟩⟩
  ·rw[aAH Kw];refine⟨_,rfl, .inr ⟨b,off,m,m,0,rfl,by rw[aAN];omega,⟨aAE _, .inl rfl⟩, ?_⟩⟩;rcases g4 with g4|⟨g5,g6,c,t,g,g7,g8,g9⟩
   ·omega
   ·exact .inr ⟨g5,g6,c,t,g,g7,by omega,by rw[<-g9,aBN,aBq RC]⟩
theorem dC.take {X:List Nat}{rs:List (List CV)}{l:List cO}(h:dC st X rs l)(i:Nat):dC st X (rs.take i) (l.take i):=by
 induction rs generalizing l i with
 |nil=>cases l with|nil=>simp[dC]|cons s l=>exact h.elim
 |cons r rs ih=>cases l with
  |nil=>exact h.elim
  |cons s l=>cases i with
   |zero=>trivial
   |succ i=>exact⟨h.1,ih h.2 i⟩
theorem eP.Ca {X:List Nat}{x:CV}{l:List cO}(h:eP st X x l)(h0:0<l.length){m:Nat}(hm:m<=l.length)(s:St):∃x',iv 5 x none (I m) (I m) s= .ok x' s/\eP st X x' (l.take m):=by
 obtain⟨rows,a,b⟩:=h;have hl:=b.len;obtain⟨v',p1,p2⟩:=a.Ca (by omega) (fw b.w) (by omega) (m:=m) (by omega) s;rw[mY b.w m (by omega)]at p2;exact⟨v',p1,_,p2,b.take m⟩
theorem eP.hi {X:List Nat}{x:CV}{l:List cO}(h:eP st X x l){m:Nat}(hm:m<=l.length)(s:St):∃x',aL 5 x none (some (I m)) s= .ok x' s/\eP st X x' (l.take m):=by
 obtain⟨rows,a,b⟩:=h;have hl:=b.len;obtain⟨v',p1,p2⟩:=a.hi (by omega) (fw b.w) (h:=m) (by omega) s;rw[mY b.w m (by omega)]at p2;exact⟨v',p1,_,p2,b.take m⟩
theorem sh {s:St}{leaf:Bool}{vc vk:CV}{K:CV->St->Prop}(h1:cr vc=true)(h2:cr vk=true)(hK:K (.ptr s.next 0) (St.new s (.cells [.bool leaf,vc,vk] 105 false))):
 upon (dD 105 [.bool false, .ae, .ae] s) fun x s2=>upon (aP 3 x (.agg [.bool leaf,vc,vk]) s2) fun _ s3=>K x s3:=tn rfl rfl (by simp[h1,h2]) hK
def By (τ:Nat)(π:PI)(G:GM)(LL:List bA)(st:St)(y:CV)(st':St):Prop:=y=I 0/\Kp π.W st st'/\∃G',Tg τ π st' G'/\ic G' LL/\G'.aE=G.aE
theorem fY {s:St}{b:Nat}{n:bg}{vc vk:CV}{K:CV->Prop}(hg:s.mem.get b=some (.cells [.bool n.leaf,vc,vk] 105 false))(hK:K (.agg [.bool n.leaf,vc,vk])):us (aI 3 (.ptr b 0) s) K:=by
 rw[aQ (n:=3) hg rfl,af];exact hK
theorem Vd:∀(m:Nat) (rest:List cO),rest.length=m->∀{st:St} {G:GM} {f:cO} {n:bg} {h:Nat} {x v:CV} {LL:List bA},Tg τ π st G->Ax G h f.page rest n LL->(n.leaf=true\/n.cells≠[])->n.size<=640->rest.length+2<=G.cJ->
 eP st π.W x (rest.reverse++[f])->IsNode st π.W v n->rest.length<=16->R 104 [.ptr τ 0,x,v] st (By τ π G LL st):=by
 intro m
 induction m using Nat.strongRecOn with
 |_ m ih=>
  intro rest hm st G f n h x v LL ht hg jS hsz iE hst hv yR;have pZ:=ht.PY;have Ds:=hv;obtain⟨vc,vk,rfl,RX,LH⟩:=hv
  have qx:n.cells.length<=640:=by
   have:=eR n.leaf n.cells;rw[bX]at hsz;omega
  refine bN ?_;rw[ahK];rw[cn,aX];refine⟨rfl, ?_⟩;have k1:Kp [] st (St.new st (.cells [.bool n.leaf,vc,vk] 105 false)):=(Kp.refl [] st).new _;have g1:(St.new st (.cells [.bool n.leaf,vc,vk] 105 false)).mem.get st.next=some (.cells [.bool n.leaf,vc,vk] 105 false):=au _ _;have n1:(St.new st (.cells [.bool n.leaf,vc,vk] 105 false)).next=st.next+1:=rfl;generalize St.new st (.cells [.bool n.leaf,vc,vk] 105 false)=s1 at*;have gw:=hst.mono (k1.mono (by simp));have wb:(rest.reverse++[f]).length=rest.length+1:=by simp
  have e3:∀s,aj .sub none true (I ((rest.length+1:Nat):Int)) (.int .i64 1) s= .ok (I rest.length) s:=fun s=>by
   have:=xS (rest.length+1) (by omega) (by omega) s none
   rwa [aBX]at this
  obtain⟨LY,LX,c1,c2,jg⟩:=gw.row (i:=rest.length) (by simp);have hf:(rest.reverse++[f])[rest.length]'(by simp)=f:=by simp
  rw[hf]at c1 c2 jg;have hlen:=fun s=>hst.len s;rw[wb]at hlen;simp only[hlen,af,e3];refine jg _ ?_;refine nT c1.bG.2.1 c2.bG.2.1 ?_;have k3:Kp [] s1 (St.new s1 (.cells [I f.page,I f.at_, .bool f.n.leaf,LY,LX] 107 false)):=(Kp.refl [] s1).new _;have g3:(St.new s1 (.cells [I f.page,I f.at_, .bool f.n.leaf,LY,LX] 107 false)).mem.get s1.next=some (.cells [I f.page,I f.at_, .bool f.n.leaf,LY,LX] 107 false):=au _ _;have n3:(St.new s1 (.cells [I f.page,I f.at_, .bool f.n.leaf,LY,LX] 107 false)).next=s1.next+1:=rfl;generalize St.new s1 (.cells [I f.page,I f.at_, .bool f.n.leaf,LY,LX] 107 false)=s3 at*;have ku:Kp [] st s3:=k1.trans k3 (by simp);have qa:=(k3.keep st.next (by omega) (by simp)).trans g1;have st3:=gw.mono (k3.mono (by simp));obtain⟨db,p10,Qt⟩:=st3.Ca (by simp) (m:=rest.length) (by simp) s3
  have Bc:(rest.reverse++[f]).take rest.length=rest.reverse:=by
   rw[aBW (by simp)]
  rw[Bc]at Qt;have t3:=ht.still ku;simp only[p10,af];refine fY qa ?_;refine(BQ t3.fr ((Ds.mono (ku.mono (by simp))).dM (by simp)) hg.Ly (by omega)).mono ?_;rintro _ s4 ⟨rfl,k4⟩;have sv:Kp [] st s4:=ku.trans k4 (by simp);have n4:=k4.next;have LM:=(k4.keep st.next (by omega) (by simp)).trans qa;have Uk:=(k4.keep s1.next (by omega) (by simp)).trans g3;have t4:=ht.still sv;have v4:IsNode s4 π.W (.agg [.bool n.leaf,vc,vk]) n:=Ds.mono (sv.mono (by simp));have ZV:=Qt.mono (k4.mono (by simp));have e4:aj .leq none true (I n.size) (.int .i64 512) s4= .ok (.bool (decide (n.size<=512))) s4:=by rw[aw,oT];congr 2;simp only[aBc];omega
  simp only[e4,af,ag];obtain⟨lo,hi,Ll,Lr,L,ps,q,xp,kI,iQ,Ua⟩:=hg.ctx
  by_cases CX:n.size<=512
  ·rw[aAJ CX,aAI rfl];simp only[fl,ah,af,aA,Uk,aq,aAF,aAy,av];refine fY LM ?_;refine(mX t4 hg.bP (v4.dM (by simp)) hg.Ly CX).mono ?_;rintro _ s5 ⟨rfl,k5,t5⟩;refine⟨rfl,(sv.mono (by simp)).trans k5 fun q hq=> .inl hq,_,t5, ?_,rfl⟩;rw[<-Ua];exact xp.write hg.ok hg.bP hg.Ly CX jS kI iQ
  ·rw[aAB CX,aAH (by decide)];obtain⟨i,E9,H⟩:=OU hg.Ly (by omega) (by omega)
   have NP:cq n<n.cells.length:=by
    have:=H.lt;unfold cq;cases fV:n.leaf with
    |false=>simp;omega
    |true=>
     rw[aAI rfl];have hA:=H.Yz;rcases H.eqs with⟨_,e,_⟩|⟨h,_⟩
     ·rw[e]at hA
      have:0<i:=by
       rcases Nat.eq_zero_or_pos i with h0|h0
       ·exact absurd (by show n.cells.take i=[];rw[h0,aCr]) hA
       ·exact h0
      omega
     ·rw[fV]at h;cases h
   refine fY LM ?_;refine(Pj t4.fr (v4.dM (by simp)) hg.Ly (by omega) NP).mono ?_;rintro _ s6 ⟨xa,xb,rfl,k6,hxa,hxb⟩;generalize alT:wo n=cu at*;obtain⟨a,sp,b⟩:=cu;simp only at H hxa hxb;have n6:=k6.next;have CP:Kp [] st s6:=sv.trans k6 (by simp);have acW:∀q∈π.W,q<s4.next:=fun q hq=>by have:=pZ q hq;have:=sv.next;omega
   have ur:∀q,st.next<=q->q∉π.W:=fun q hq hh=>by have:=pZ q hh;omega
   obtain⟨ca,ka,rfl,Zu,Zt⟩:=hxa π.W acW;obtain⟨cb,kb,rfl,Zs,Zr⟩:=hxb π.W acW;obtain⟨za1,za2,za3⟩:=Zu.bG;obtain⟨zb1,zb2,zb3⟩:=Zt.bG;obtain⟨zc1,zc2,zc3⟩:=Zs.bG;obtain⟨zd1,zd2,zd3⟩:=Zr.bG;have yy:(St.new s6 (.cells [.bool false, .ae, .ae] 105 false)).next=s6.next+1:=rfl;simp only[aD,aN,af];rw[cG,aS,cG,aS,yy];have kA:Kp [] s6 (St.new (St.new s6 (.cells [.bool false, .ae, .ae] 105 false)) (.cells [.bool false, .ae, .ae] 105 false)):=((Kp.refl [] s6).new _).new _;have Zh:(St.new (St.new s6 (.cells [.bool false, .ae, .ae] 105 false)) (.cells [.bool false, .ae, .ae] 105 false)).mem.get s6.next=some (.cells [.bool false, .ae, .ae] 105 false):=(aZ _ _ _ (by simp)).trans (au _ _);have Zg:(St.new (St.new s6 (.cells [.bool false, .ae, .ae] 105 false)) (.cells [.bool false, .ae, .ae] 105 false)).mem.get (s6.next+1)=some (.cells [.bool false, .ae, .ae] 105 false):=au (St.new s6 (.cells [.bool false, .ae, .ae] 105 false)) _;have nA:(St.new (St.new s6 (.cells [.bool false, .ae, .ae] 105 false)) (.cells [.bool false, .ae, .ae] 105 false)).next=s6.next+2:=rfl;generalize St.new (St.new s6 (.cells [.bool false, .ae, .ae] 105 false)) (.cells [.bool false, .ae, .ae] 105 false)=s8 at*;have jZ:∀a b c:CV,bp [.bool false, .ae, .ae] 0 [a,b,c]=[a,b,c]:=fun a b c=>rfl;rw[aF,Zh,aR,aX,jZ];refine⟨⟨rfl,by simp[za2,zb2],by simp⟩, ?_⟩;rw[aF,al _ _ _ _ (by omega),Zg,aR,aX,jZ];refine⟨⟨rfl,by simp[zc2,zd2],by simp⟩, ?_⟩;have kB:Kp [] s6 (St.set (St.set s8 s6.next (.cells [.bool a.leaf,ca,ka] 105 false)) (s6.next+1) (.cells [.bool b.leaf,cb,kb] 105 false)):=(kA.set _ (.inr (aAE _)) (by omega)).set _ (.inr (by omega)) (by simp;omega);have gB1:(St.set (St.set s8 s6.next (.cells [.bool a.leaf,ca,ka] 105 false)) (s6.next+1) (.cells [.bool b.leaf,cb,kb] 105 false)).mem.get s6.next=some (.cells [.bool a.leaf,ca,ka] 105 false):=(al _ _ _ _ (by omega)).trans (ao _ _ _)
   have gB2:(St.set (St.set s8 s6.next (.cells [.bool a.leaf,ca,ka] 105 false)) (s6.next+1) (.cells [.bool b.leaf,cb,kb] 105 false)).mem.get (s6.next+1)=some (.cells [.bool b.leaf,cb,kb] 105 false):=ao _ _ _;have nB:(St.set (St.set s8 s6.next (.cells [.bool a.leaf,ca,ka] 105 false)) (s6.next+1) (.cells [.bool b.leaf,cb,kb] 105 false)).next=s6.next+2:=nA;generalize St.set (St.set s8 s6.next (.cells [.bool a.leaf,ca,ka] 105 false)) (s6.next+1) (.cells [.bool b.leaf,cb,kb] 105 false)=df at*;have oC:Kp [] st df:=CP.trans kB (by simp);have aaB:Kp [] s4 df:=k6.trans kB (by simp);have HU:=(aaB.keep s1.next (by omega) (by simp)).trans Uk;have t10:=ht.still oC;have aiZ:IsNode df π.W (.agg [.bool a.leaf,ca,ka]) a:=⟨ca,ka,rfl,Zu.mono (kB.mono (by simp)),Zt.mono (kB.mono (by simp))⟩;have aiX:IsNode df π.W (.agg [.bool b.leaf,cb,kb]) b:=⟨cb,kb,rfl,Zs.mono (kB.mono (by simp)),Zr.mono (kB.mono (by simp))⟩;simp only[fl,ah,af,aA,HU,aq,aAF,aAy,av];refine fY gB1 ?_;refine(mX t10 hg.bP (aiZ.dM (by simp)) H.Vw H.ZR).mono ?_;rintro _ de ⟨rfl,qy,t11⟩;have M4:=qy.next;have e5:∀s,aj .neq (some .int) true (I 0) (.int .i64 0) s= .ok (.bool false) s:=fun s=>rfl;have ano:=(qy.keep (s6.next+1) (by omega) (ur _ (by have:=CP.next;omega))).trans gB2;simp only[e5,af,ag,aAz,aAO];refine fY ano ?_;have Xe:0<(G.put f.page (.node a)).cJ:=by rw[yh];omega
   have zg:=O7 (hg.ok.put f.page (.node a)) Xe H.okB H.szB (.inr H.neB);refine(BI t11 Xe (aiX.mono qy) H.okB H.szB).mono ?_;rintro _ bU ⟨rfl,qH,t12⟩;generalize hr:(G.put f.page (.node a)).dS=r at*;generalize hG2:(G.put f.page (.node a)).alloc.put r (.node b)=G2 at*;have M3:=qH.next;have CQ:Kp π.W st bU:=((oC.mono (by simp)).trans qy fun q hq=> .inl hq).trans qH fun q hq=> .inl hq;have Tf:Kp π.W df bU:=qy.trans qH fun q hq=> .inl hq;have anz:=(Tf.keep s1.next (by have:=oC.next;omega) (ur _ (by omega))).trans HU;have ZU:eP bU π.W db rest.reverse:=(ZV.mono (aaB.mono (by simp))).mono Tf;have abU:=ZU.len bU;rw[List.length_reverse]at abU;have hrm:=qN zg.ok zg.is.bP;have e6:aj .eql (some .int) true (I rest.length) (.int .i64 0) bU= .ok (.bool (decide (rest.length=0))) bU:=by rw[aw,cz];congr 2;simp only[aBc];omega
   simp only[aD,aN,af,e5,ag,aAz,aAO,abU,e6];have Am:sp.length<=48:=by rw[H.key];exact(hg.Ly.cell _ (aAW ..)).key
   cases rest with
   |nil=>
    obtain⟨_,rfl,rfl,rfl,rfl,rfl⟩:=(show f.page=G.root/\lo=[]/\hi=none/\Ll=[]/\Lr=[]/\ps=[]from xp);rw[aAI (show decide (([]:List cO).length=0)=true from rfl)];have mC:bD [.str [], .str [], .int .i64 0, .int .i64 0] [(0,1, .str sp)] bU= .ok (.agg (aU (fK sp))) bU:=rfl;rw[mC,af,zt (k:=4) rfl rfl rfl,aS];have qG:Kp [] bU (St.new bU (.cells (CV.agg (aU (fK sp))).cD 109 false)):=(Kp.refl [] bU).new _;have HW:(St.new bU (.cells (CV.agg (aU (fK sp))).cD 109 false)).mem.get bU.next=some (.cells (aU (fK sp)) 109 false):=au _ _;have n13:(St.new bU (.cells (CV.agg (aU (fK sp))).cD 109 false)).next=bU.next+1:=rfl;generalize St.new bU (.cells (CV.agg (aU (fK sp))).cD 109 false)=ep at*;have anx:=(qG.keep s1.next (by omega) (by simp)).trans anz;have LK:bQ 3 2 (cH 2 [.int .i64 0]) [(0,1,I f.page),(1,1,I r)] ep= .ok (.slice ep.next 0 2 2 0) (St.new ep (.cells [I f.page,I r] 3 false)):=rfl;simp only[aA,anx,aq,aAy,av,LK,aS];have CE:Kp [] ep (St.new ep (.cells [I f.page,I r] 3 false)):=(Kp.refl [] ep).new _;have anF:(St.new ep (.cells [I f.page,I r] 3 false)).mem.get ep.next=some (.cells [I f.page,I r] 3 false):=au _ _;have n14:(St.new ep (.cells [I f.page,I r] 3 false)).next=ep.next+1:=rfl;generalize St.new ep (.cells [I f.page,I r] 3 false)=eV at*;have anG:=(CE.keep bU.next (by omega) (by simp)).trans HW;have KD:bD [.bool false, .ae, .ae] [(1,1, .slice bU.next 0 1 1 0),(2,1, .slice ep.next 0 2 2 0)] eV= .ok (.agg [.bool false, .slice bU.next 0 1 1 0, .slice ep.next 0 2 2 0]) eV:=rfl;rw[KD,af];have acb:=CQ.next;have t14:=(t12.still qG).still CE
    have yQ:IsNode eV π.W (.agg [.bool false, .slice bU.next 0 1 1 0, .slice ep.next 0 2 2 0]) ⟨false,[fK sp],[f.page,r]⟩:=
     ⟨_,_,rfl, .inr ⟨bU.next,0,1,1,0,rfl,rfl,⟨aAE _, .inl rfl⟩, .inr ⟨ur _ (by omega),by omega,_,_,_,anG,by simp[aU],rfl⟩⟩, .inr ⟨ep.next,0,2,2,0,rfl,rfl,⟨aAE _, .inl rfl⟩, .inr ⟨ur _ (by omega),by omega,_,_,_,anF,by simp,rfl⟩⟩⟩
    have hpm:=qN hg.ok hg.bP;have yW:bg.ok ⟨false,[fK sp],[f.page,r]⟩:=⟨fun c hc=>by simp at hc;subst hc;exact rU Am,by unfold iu;simp,rfl,fun k hk=>by simp at hk;rcases hk with rfl|rfl<;>assumption⟩
    have aby:bg.size ⟨false,[fK sp],[f.page,r]⟩<=512:=by
     rw[bX];have h1:=(iI (rU Am)).2.2 rfl;have h2:=(jE f.page hpm).2;have h3:=(jE r hrm).2;have h4:(uv ([fK sp]:List dh).length).length=1:=eI (by simp);simp only[h4,aAz,aAO];have h5:(cK false [fK sp]).length=(hU false (fK sp)).length:=by simp[cK]
     have h6:(eK [f.page,r]).length=(uv f.page).length+(uv r).length:=by simp[eK]
     rw[h5,h6];omega
    have Kz:0<G2.cJ:=by have:=zg.free;rw[yh]at this;simp at iE;omega
    have XH:=O7 zg.ok Kz yW aby (.inr (by simp));refine(BI t14 Kz yQ yW aby).mono ?_;rintro _ iL ⟨rfl,pe,t15⟩;simp only[aD,aN,af,e5,ag,aAz,aAO];refine t15.get' ?_;refine(rY t15.pg _ (.inr XH.is.bP)).mono ?_;rintro _ dd ⟨rfl,EK,p16⟩;refine⟨rfl, ?_,_,t15.of EK p16, ?_, ?_⟩
    ·exact((((CQ.trans qG (by simp)).trans CE (by simp)).trans pe fun q hq=> .inl hq).trans EK fun q hq=> .inl hq)
    ·rw[<-Ua];simp only[aBf,aBz]at iQ⊢;exact GL hg.ok hg.bP hg.Ly H kI iQ zg XH
    ·have h1:=XH.aE;have h2:=zg.aE;exact h1.trans h2
   |cons sm fL=>
    rw[aAB (by simp),aAH (by decide)];obtain⟨m1,m2,m3,m4,m5,kF,fv,xK,xJ,L',nX,q',m6,m7,m8,m9⟩:=JO xp hg.ok hg.bP hg.Ly H kI iQ zg;have ayo:=xp;obtain⟨_,_,_,_,_,_,_,_,_,_,Kt,_,_,_⟩:=xp
    have abg:sm.n.cells.length<=512:=by
     have:=eR sm.n.leaf sm.n.cells;have:=Kt.size;rw[bX]at this;omega
    have Wd:=Kt.ok.jf;rw[m2,aAH (by decide)]at Wd
    have e7:aj .sub none true (I (sm::fL).length) (.int .i64 1) bU= .ok (I fL.length) bU:=by
     have:=xS (sm::fL).length (by simp at yR⊢;omega) (by simp) bU none
     simpa using this
    have SM:eP bU π.W db (fL.reverse++[sm]):=by simpa using ZU
    obtain⟨pC,mM,d1,d2,ER⟩:=SM.row (i:=fL.length) (by simp);have Xi:(fL.reverse++[sm])[fL.length]'(by simp)=sm:=by simp
    rw[Xi,m2]at ER;rw[Xi]at d1 d2;rw[e7,af];refine ER _ ?_;refine nT d1.bG.2.1 d2.bG.2.1 ?_;have Pv:Kp [] bU (St.new bU (.cells [I sm.page,I sm.at_, .bool false,pC,mM] 107 false)):=(Kp.refl [] bU).new _;have Sb:(St.new bU (.cells [I sm.page,I sm.at_, .bool false,pC,mM] 107 false)).mem.get bU.next=some (.cells [I sm.page,I sm.at_, .bool false,pC,mM] 107 false):=au _ _;have n18:(St.new bU (.cells [I sm.page,I sm.at_, .bool false,pC,mM] 107 false)).next=bU.next+1:=rfl;generalize St.new bU (.cells [I sm.page,I sm.at_, .bool false,pC,mM] 107 false)=dj at*
    have HM:∀K:CV->Prop,K (.agg [.bool false,pC,mM])->LN 3 2 (.ptr bU.next 0) dj K:=fun K hK=>by
     unfold LN;rw[ah,af,gH (n:=3) Sb (by simp),af];exact hK
    refine HM _ ?_;refine sh d1.bG.2.1 d2.bG.2.1 ?_;have Hy:Kp [] dj (St.new dj (.cells [.bool false,pC,mM] 105 false)):=(Kp.refl [] dj).new _;have g20:(St.new dj (.cells [.bool false,pC,mM] 105 false)).mem.get dj.next=some (.cells [.bool false,pC,mM] 105 false):=au _ _;have n20:(St.new dj (.cells [.bool false,pC,mM] 105 false)).next=dj.next+1:=rfl;generalize St.new dj (.cells [.bool false,pC,mM] 105 false)=iK at*;have adO:=(Hy.keep bU.next (by omega) (by simp)).trans Sb;have yI:Kp [] bU iK:=Pv.trans Hy (by simp);have acu:cY iK:=yI.fresh t12.fr;rw[bt];have Hw:Kp [] iK (St.skip iK):=(Kp.refl [] iK).skip;have im:(St.skip iK).mem.get iK.next=none:=acu _ (aAE _);have nsk:(St.skip iK).next=iK.next+1:=rfl;have R7:(St.skip iK).mem.get dj.next=some (.cells [.bool false,pC,mM] 105 false):=g20;have adt:(St.skip iK).mem.get bU.next=some (.cells [I sm.page,I sm.at_, .bool false,pC,mM] 107 false):=adO;generalize St.skip iK=sk at*;have aaG:Kp [] bU sk:=yI.trans Hw (by simp);simp only[ah,af,aA,R7,aq,aAF,aAA,aAy,av];refine(vx ((d1.dM (Y:=[]) (by simp)).mono aaG) (eM _) (by rw[bL];omega)).mono ?_;rintro qE fy ⟨F1,Aj,o1,KO,_⟩;have n21:=Aj.next;have adD:=(Aj.keep bU.next (by omega) (by simp)).trans adt;have XL:=(Aj.keep dj.next (by omega) (by simp)).trans R7;have amO:fy.mem.get iK.next=none:=(Aj.keep iK.next (by omega) (by simp)).trans im;have mC:bD [.str [], .str [], .int .i64 0, .int .i64 0] [(0,1, .str sp)] fy= .ok (.agg (aU (fK sp))) fy:=rfl;simp only[adD,aq,aAA,aAy,av,mC,af];rw[jb amO (C0 (k:=4) rfl rfl rfl),aS];have VU:Kp [iK.next] fy (St.set fy iK.next (.cells (CV.agg (aU (fK sp))).cD 109 false)):=(Kp.refl _ fy).set _ (.inl (by simp)) (by omega);have XS:(St.set fy iK.next (.cells (CV.agg (aU (fK sp))).cD 109 false)).mem.get iK.next=some (.cells (aU (fK sp)) 109 false):=ao _ _ _;have o22:Own (St.set fy iK.next (.cells (CV.agg (aU (fK sp))).cD 109 false)) qE 4 109 (bC sm.n.cells) F1:=o1.mono fun b hb=>al _ _ _ _ (by have:=(KO b hb).1;omega)
    have amX:(St.set fy iK.next (.cells (CV.agg (aU (fK sp))).cD 109 false)).mem.get dj.next=_:=(al _ _ _ _ (by omega)).trans XL;have adC:(St.set fy iK.next (.cells (CV.agg (aU (fK sp))).cD 109 false)).mem.get bU.next=_:=(al _ _ _ _ (by omega)).trans adD;have n22:(St.set fy iK.next (.cells (CV.agg (aU (fK sp))).cD 109 false)).next=fy.next:=rfl;generalize St.set fy iK.next (.cells (CV.agg (aU (fK sp))).cD 109 false)=zX at*;refine(EL o22 (bL _) (by omega) (fun b hb=>by have:=(KO b hb).2;omega) XS (fun hh=>by have:=(KO _ hh).1;omega) rfl (eM _) (gp _) m1).mono ?_;rintro mq pL ⟨F2,o2,YE,fF2⟩;have n23:=YE.next;have Wi:dj.next∉F1:=fun hh=>by have:=(KO _ hh).1;omega
    have abn:bU.next∉F1:=fun hh=>by have:=(KO _ hh).1;omega
    have amW:=(YE.keep dj.next (by omega) Wi).trans amX;have anb:=(YE.keep bU.next (by omega) abn).trans adC
    have sn:∀b∈F2,iK.next<b/\b<pL.next:=fun b hb=>by
     obtain⟨p1,p2⟩:=fF2 b hb;refine⟨?_,p2⟩;rcases p1 with h|h
     ·have:=(KO b h).1;omega
     ·omega
    obtain⟨Vx,QR⟩:=o2.cr;have akp:bp [.bool false,pC,mM] 1 [mq]=[.bool false,mq,mM]:=rfl
    have H0:(bC sm.n.cells).take (sm.at_*4)++(aU (fK sp)++(bC sm.n.cells).drop (sm.at_*4))=bC (mB sm.n sm.at_ sp r).cells:=by
     rw[kz _ _ m1,kD _ _ m1];show _=bC (sm.n.cells.take sm.at_++fK sp::sm.n.cells.drop sm.at_);rw[gS]
     congr 1
    rw[H0]at o2;simp only[ah,af,aF,aAF,amW,aR,QR,akp,aA,R7,adt,adC,aq,aAA,aAy,av,aCC,and_true,im];refine⟨⟨rfl,by simp[Vx],by simp⟩, ?_⟩;have k24:Kp [dj.next] pL (St.set pL dj.next (.cells [.bool false,mq,mM] 105 false)):=(Kp.refl _ pL).set _ (.inl (by simp)) (by omega);have PR:(St.set pL dj.next (.cells [.bool false,mq,mM] 105 false)).mem.get dj.next=some (.cells [.bool false,mq,mM] 105 false):=ao _ _ _;have ana:(St.set pL dj.next (.cells [.bool false,mq,mM] 105 false)).mem.get bU.next=_:=(al _ _ _ _ (by omega)).trans anb;have n24:(St.set pL dj.next (.cells [.bool false,mq,mM] 105 false)).next=pL.next:=rfl;have o24:Own (St.set pL dj.next (.cells [.bool false,mq,mM] 105 false)) mq 4 109 (bC (mB sm.n sm.at_ sp r).cells) F2:=o2.mono fun b hb=>al _ _ _ _ (by have:=(sn b hb).1;omega);have ajg:Kp [] bU pL:=((aaG.trans Aj (by simp)).trans VU (by simp;omega)).trans YE fun q hq=> .inr (by have:=(KO q hq).1;omega);have aax:Kp [] bU (St.set pL dj.next (.cells [.bool false,mq,mM] 105 false)):=ajg.set _ (.inr (by omega)) (by omega);generalize St.set pL dj.next (.cells [.bool false,mq,mM] 105 false)=iH at*;have acs:cY iH:=aax.fresh t12.fr;have aaw:Kp [] iH (St.skip iH):=(Kp.refl [] iH).skip;have CM:(St.skip iH).mem.get iH.next=none:=acs _ (aAE _);have atO:(St.skip iH).next=iH.next+1:=rfl;have XJ:(St.skip iH).mem.get dj.next=_:=PR;have ads:(St.skip iH).mem.get bU.next=_:=ana;rw[bt];generalize St.skip iH=sl at*;have aaF:Kp [] bU sl:=aax.trans aaw (by simp);simp only[aA,XJ,aq,aAA,aAy,av];refine(zp ((d2.dM (Y:=[]) (by simp)).mono aaF) (jc _) (by rw[oY];omega)).mono ?_;rintro lW lP ⟨F3,YC,o3,XV,_⟩;have n25:=YC.next;have adB:=(YC.keep bU.next (by omega) (by simp)).trans ads;have amV:=(YC.keep dj.next (by omega) (by simp)).trans XJ;have amN:lP.mem.get iH.next=none:=(YC.keep iH.next (by omega) (by simp)).trans CM;simp only[adB,aq,aAA,aAy,av,gF sm.at_ (by omega),af];have alE:fX [(0,1,I r)] (cH 1 [.int .i64 0])=some [I r]:=rfl;rw[jb amN alE,aS]
    have YD:Kp [iH.next] lP (St.set lP iH.next (.cells [I r] 3 false)):=(Kp.refl _ lP).set _ (.inl (by simp)) (by omega);have XR:(St.set lP iH.next (.cells [I r] 3 false)).mem.get iH.next=some (.cells [I r] 3 false):=ao _ _ _;have o26:Own (St.set lP iH.next (.cells [I r] 3 false)) lW 1 3 (ck sm.n.kids) F3:=o3.mono fun b hb=>al _ _ _ _ (by have:=(XV b hb).1;omega);have amU:(St.set lP iH.next (.cells [I r] 3 false)).mem.get dj.next=_:=(al _ _ _ _ (by omega)).trans amV;have amZ:(St.set lP iH.next (.cells [I r] 3 false)).mem.get bU.next=_:=(al _ _ _ _ (by omega)).trans adB;have n26:(St.set lP iH.next (.cells [I r] 3 false)).next=lP.next:=rfl;have aiQ:Own (St.set lP iH.next (.cells [I r] 3 false)) mq 4 109 (bC (mB sm.n sm.at_ sp r).cells) F2:=((o24.keep aaw fun b hb=>⟨by have:=(sn b hb).2;omega,by simp⟩).keep YC fun b hb=>⟨by have:=(sn b hb).2;omega,by simp⟩).mono fun b hb=>al _ _ _ _ (by have:=(sn b hb).2;omega);generalize St.set lP iH.next (.cells [I r] 3 false)=xy at*;refine(Kq (n:=sm.n.kids.length) (i:=sm.at_+1) o26 (by simp) (by omega) (fun b hb=>by have:=(XV b hb).2;omega) XR (fun hh=>by have:=(XV _ hh).1;omega) rfl (jc _) rfl (by omega)).mono ?_;rintro sR tO ⟨F4,o4,VT,fF4⟩;have n27:=VT.next;have ajQ:dj.next∉F3:=fun hh=>by have:=(XV _ hh).1;omega
    have amT:=(VT.keep dj.next (by omega) ajQ).trans amU
    have lF4:∀b∈F4,iH.next<b/\b<tO.next:=fun b hb=>by
     obtain⟨p1,p2⟩:=fF4 b hb;refine⟨?_,p2⟩;rcases p1 with h|h
     ·have:=(XV b h).1;omega
     ·omega
    have aiP:Own tO mq 4 109 (bC (mB sm.n sm.at_ sp r).cells) F2:=aiQ.keep VT fun b hb=>⟨by have:=(sn b hb).2;omega,fun hh=>by have:=(XV b hh).1;have:=(sn b hb).2;omega⟩;obtain⟨od1,od2⟩:=o4.cr;have akq:bp [.bool false,mq,mM] 2 [sR]=[.bool false,mq,sR]:=rfl
    have adT:(ck sm.n.kids).take ((sm.at_+1)*1)++([I r]++(ck sm.n.kids).drop ((sm.at_+1)*1))=ck (mB sm.n sm.at_ sp r).kids:=by
     rw[aCo,tY,tZ];show _=ck (sm.n.kids.take (sm.at_+1)++r::sm.n.kids.drop (sm.at_+1));rw[mT]
     congr 1
    rw[adT]at o4;simp only[ah,af,aF,aAF,amT,aR,od2,akq,aA,XJ,ads,amZ,aq,aAA,aAy,av,aCC,and_true,CM];refine⟨⟨rfl,by simp[od1],by simp⟩, ?_⟩;have ajf:Kp [] bU tO:=((aaF.trans YC (by simp)).trans YD (by simp;omega)).trans VT fun q hq=> .inr (by have:=(XV q hq).1;omega);have VJ:Kp [] bU (St.set tO dj.next (.cells [.bool false,mq,sR] 105 false)):=ajf.set _ (.inr (by omega)) (by omega);have Zl:(St.set tO dj.next (.cells [.bool false,mq,sR] 105 false)).mem.get dj.next=some (.cells [.bool (mB sm.n sm.at_ sp r).leaf,mq,sR] 105 false):=ao _ _ _;have aiO:Own (St.set tO dj.next (.cells [.bool false,mq,sR] 105 false)) mq 4 109 (bC (mB sm.n sm.at_ sp r).cells) F2:=aiP.mono fun b hb=>al _ _ _ _ (by have:=(sn b hb).1;omega);have aiC:Own (St.set tO dj.next (.cells [.bool false,mq,sR] 105 false)) sR 1 3 (ck (mB sm.n sm.at_ sp r).kids) F4:=o4.mono fun b hb=>al _ _ _ _ (by have:=(lF4 b hb).1;omega);have n28:(St.set tO dj.next (.cells [.bool false,mq,sR] 105 false)).next=tO.next:=rfl;generalize St.set tO dj.next (.cells [.bool false,mq,sR] 105 false)=zK at*;refine fY Zl ?_;have acb:=CQ.next
    have Rw:IsNode zK π.W (.agg [.bool (mB sm.n sm.at_ sp r).leaf,mq,sR]) (mB sm.n sm.at_ sp r):=
     ⟨mq,sR,rfl,aiO.sl fun b hb=>⟨ur b (by have:=(sn b hb).1;omega),by have:=(sn b hb).2;omega⟩,aiC.sl fun b hb=>⟨ur b (by have:=(lF4 b hb).1;omega),by have:=(lF4 b hb).2;omega⟩⟩
    have hGo:Ax G2 (h+1) sm.page fL (mB sm.n sm.at_ sp r) LL:=⟨zg.ok,m5,m3,kF,fv,xK,xJ,L',nX,q',m6,m7,m8,m9.trans Ua⟩;have Kz:=zg.free;rw[yh]at Kz;simp only[aBb]at iE hm yR;refine(ih fL.length (by omega) fL rfl (t12.still VJ) hGo (.inr (by unfold mB;simp)) (by omega) (by omega) (SM.mono (VJ.mono (by simp))) Rw (by omega)).mono ?_;rintro _ Mu ⟨rfl,k29,G',t29,ahY,qz⟩;refine⟨rfl,(CQ.trans VJ (by simp)).trans k29 fun q hq=> .inl hq,G',t29,ahY, ?_⟩;have h2:=zg.aE;rw[qz,h2];rfl
theorem ZI {rest:List cO}{f:cO}{n:bg}{h:Nat}{x v:CV}{LL:List bA}(ht:Tg τ π st G)(hg:Ax G h f.page rest n LL)(jS:n.leaf=true\/n.cells≠[])(hsz:n.size<=640)(iE:rest.length+2<=G.cJ)
 (hst:eP st π.W x (rest.reverse++[f])) (hv:IsNode st π.W v n) (yR:rest.length<=16):R 104 [.ptr τ 0,x,v] st (By τ π G LL st):=Vd rest.length rest rfl ht hg jS hsz iE hst hv yR
end
