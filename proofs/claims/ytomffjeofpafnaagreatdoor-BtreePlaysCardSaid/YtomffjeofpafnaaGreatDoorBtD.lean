import Derived.Test.YtomffjeofpafnaaGreatDoorBtC
namespace Lim
open Go
noncomputable section
structure rO (G G1:GM)(key:cc)(f:cO)(rest:List cO)(L:List bA)(k:Nat):Prop where
 ex:∃lo hi Ll Lr ps Lt pt Ld pd vF po zL,nI G key f rest L lo hi Ll Lr ps Lt pt Ld pd/\eS G (f.n.cells.drop (f.at_+k)) vF zL/\pd=po++zL/\(∀x∈vF,eC key x.1)/\Uy G po/\G1=iz G po/\((k=0/\Ld=vF)\/∃w,Ld=(key,w)::vF)
 found:(k=1/\∃c,f.n.cells[f.at_]?=some c/\c.key=key)\/(k=0/\G1=G/\∀c,f.n.cells[f.at_]?=some c->c.key≠key)
section
variable {G G1 G2:GM} {key:cc} {f:cO} {rest:List cO} {L:List bA} {k:Nat} {lo:cc} {hi:Option cc} {Ll Lr:List bA} {ps:List Nat} {Lt:List bA} {pt:List Nat} {Ld:List bA} {pd:List Nat}
theorem nI.Tj (h:nI G key f rest L lo hi Ll Lr ps Lt pt Ld pd)(hG:um G){c:dh}(hc:f.n.cells[f.at_]?=some c)(hk:c.key=key):∃w po,Bx G c w po/\po.Nodup/\rO G (iz G po) key f rest L 1/\(iz G po).cJ=G.cJ+po.length/\kJ L key=some w:=by
 obtain⟨w,po,vF,zL,a,b,rfl,rfl,e,hg⟩:=h.found hc hk;have iQ:=h.nd
 have Wt:po.Nodup:=by
  simp only[aAQ,aBy]at iQ;exact iQ.2.1.2.1.1
 have hD:=Un hG Wt fun p hp=>h.cd.aE p (by simp[hp]);exact⟨w,po,a,Wt,⟨⟨lo,hi,Ll,Lr,ps,Lt,pt,_,_,vF,po,zL,h,b,rfl,e,hD,rfl, .inr ⟨w,rfl⟩⟩, .inl ⟨rfl,c,hc,hk⟩⟩,hD.free,hg⟩
theorem nI.aaK (h:nI G key f rest L lo hi Ll Lr ps Lt pt Ld pd)(hG:um G)(hn:∀c,f.n.cells[f.at_]?=some c->c.key≠key):rO G G key f rest L 0:=
 ⟨⟨lo,hi,Ll,Lr,ps,Lt,pt,Ld,pd,Ld,[],pd,h,h.cd,rfl,(h.EI hn).1,Un hG (by simp) (by simp),rfl, .inl ⟨rfl,rfl⟩⟩, .inr ⟨rfl,rfl,hn⟩⟩
theorem yC {l1 l2:List dh}{cm:List dh}{n:bg}{i k:Nat}(hn:n.ok)(hs:n.size<=512)(fV:n.leaf=true)(RW:∀c∈cm,c.ok true)(h1:cm.length<=1):(fg (n.cells.take i++(cm++n.cells.drop (i+k)))).size<=640:=by
 rw[bX,fV,aAI rfl]at hs;have h2:=hO true n.cells i;have h3:=hO true (n.cells.drop i) k;rw[aCU]at h3
 have h4:(cK true cm).length<=115:=by
  cases cm with
  |nil=>simp[cK]
  |cons c cm=>cases cm with
   |nil=>
    have:=(iI (RW c (by simp))).2.1;rw[fo];simpa[cK]using this
   |cons d cm=>simp at h1
 have h5:=eR true n.cells
 have h6:(fg (n.cells.take i++(cm++n.cells.drop (i+k)))).cells.length<=600:=by
  unfold fg;simp;omega
 have h7:=pE (n:=(fg (n.cells.take i++(cm++n.cells.drop (i+k)))).cells.length) (by omega);rw[bX];unfold fg at h7⊢;simp only[aAY,eh,aAG]at h7⊢;omega
theorem rO.put (h:rO G G1 key f rest L k){c:dh}{v:List UInt8}{pc:List Nat}(hl:Yj G1 G2 c v pc)(hk:c.key=key)(hc:c.ok true):
 Ax G2 0 f.page rest (fg (f.n.cells.take f.at_++([c]++f.n.cells.drop (f.at_+k)))) (uN L key v)/\(fg (f.n.cells.take f.at_++([c]++f.n.cells.drop (f.at_+k)))).size<=640:=by
 obtain⟨⟨lo,hi,Ll,Lr,ps,Lt,pt,Ld,pd,vF,po,zL,hA,PM,Tv,Bj,hD,rfl,hLd⟩,_⟩:=h
 have e:uN L key v=Ll++((Lt++([(key,v)]++vF))++Lr):=by
  have hA1:∀x∈Ll++Lt,eC x.1 key:=fun x hx=>by
   rcases aAM.1 hx with hx|hx
   ·exact hA.kl x hx
   ·exact hA.kt x hx
  have hB1:∀x∈vF++Lr,eC key x.1:=fun x hx=>by
   rcases aAM.1 hx with hx|hx
   ·exact Bj x hx
   ·exact hA.kr x hx
  rcases hLd with⟨_,rfl⟩|⟨w,rfl⟩
  ·have e:L=(Ll++Lt)++(Ld++Lr):=by rw[<-hA.total];simp
   rw[e,MG hA1 hB1];simp
  ·have e:L=(Ll++Lt)++(key,w)::(vF++Lr):=by rw[<-hA.total];simp
   rw[e,MF hA1 hB1];simp
 rw[e];refine⟨A5 (pm:=pc) (po:=po) hA hl.ok (hl.root.trans hD.root) PM Tv (fun qs Ws=> ?_) ⟨v,pc,[],[],hl.val,⟨rfl,rfl⟩,by rw[hk],by simp⟩ (by simp[hk,hc]) (by simp) hl.nd (fun x hx hu=>hl.new x hx ((hD.bP x).2 hu)) Bj,yC (l1:=[]) (l2:=[]) hA.node.ok hA.node.size hA.leaf (by simp[hc]) (by simp)⟩;have k1:Kept G (iz G po) qs:=fun q hq=>⟨fun hu=>(hD.bP q).2 (Ws q hq),hD.cont q⟩;exact k1.trans (hl.kept qs fun x hx=>(hD.bP x).2 (Ws x hx))
theorem rO.del (h:rO G G1 key f rest L 1):Ax G1 0 f.page rest (fg (f.n.cells.take f.at_++f.n.cells.drop (f.at_+1))) (pj L key)/\(fg (f.n.cells.take f.at_++f.n.cells.drop (f.at_+1))).size<=640:=by
 obtain⟨⟨lo,hi,Ll,Lr,ps,Lt,pt,Ld,pd,vF,po,zL,hA,PM,Tv,Bj,hD,rfl,hLd⟩,_⟩:=h
 have e:pj L key=Ll++((Lt++([]++vF))++Lr):=by
  have hA1:∀x∈Ll++Lt,eC x.1 key:=fun x hx=>by
   rcases aAM.1 hx with hx|hx
   ·exact hA.kl x hx
   ·exact hA.kt x hx
  have hB1:∀x∈vF++Lr,eC key x.1:=fun x hx=>by
   rcases aAM.1 hx with hx|hx
   ·exact Bj x hx
   ·exact hA.kr x hx
  rcases hLd with⟨h,_⟩|⟨w,rfl⟩
  ·cases h
  ·have e:L=(Ll++Lt)++(key,w)::(vF++Lr):=by rw[<-hA.total];simp
   rw[e,OQ hA1 hB1];simp
 rw[e];have hl:=A5 (cm:=[]) (Lm:=[]) (pm:=[]) (po:=po) hA hD.ok hD.root PM Tv (fun qs Ws q hq=>⟨fun hu=>(hD.bP q).2 (Ws q hq),hD.cont q⟩) ⟨rfl,rfl⟩ (by simp) (by simp) (by simp) (by simp) Bj;rw[aBf]at hl;have hs:=yC (l1:=[]) (l2:=[]) (cm:=[]) (i:=f.at_) (k:=1) hA.node.ok hA.node.size hA.leaf (by simp) (by simp);rw[aBf]at hs;exact⟨hl,hs⟩
theorem HZ {c:dh}{v:List UInt8}{pc:List Nat}{r:Nat}(hl:Yj G G1 c v pc)(hc:c.ok true)(zg:Gd G1 (fg [c]) G2 r):ic (G2.gJ r) (uN [] c.key v):=by
 have Xs:eS G1 [c] [(c.key,v)] pc:=⟨v,pc,[],[],hl.val,⟨rfl,rfl⟩,rfl,by simp⟩;have hr:r∉pc:=fun hh=>zg.not (Xs.aE r hh);refine⟨zg.ok.gJ _, .inr ⟨0,r::pc,aAQ.2 ⟨hr,hl.nd⟩,fg [c],pc,⟨zg.is.bP,zg.is.cont,zg.is.ok,zg.is.size,zg.is.full⟩,⟨rfl,trivial, ?_,fun d hd=>⟨?_,trivial⟩⟩,rfl⟩⟩
 ·exact Xs.kept (G':=G2.gJ r) (zg.kept pc hr)
 ·exact je _
theorem M8 {c:dh}(hc:c.ok true):(fg [c]).ok/\(fg [c]).size<=512:=by
 refine⟨⟨fun d hd=>by simp[fg]at hd;subst hd;exact hc,by unfold iu fg;simp,rfl,by simp[fg]⟩, ?_⟩;have:=(iI hc).2.1;have h2:(uv ([c]:List dh).length).length=1:=eI (by simp);have h3:cK true [c]=hU true c:=by simp[cK]
 rw[bX];unfold fg;simp only[h2,h3,aAY];omega
end
set_option maxRecDepth 100000
section
variable {τ:Nat} {π:PI} {st st':St} {G:GM}
theorem Jp (h:Tg τ π st G)(p:Nat)(hp:p<=1000):R 43 [.ptr τ 0,I p] st fun v st'=>v= .bool (decide (G.cJ<24+p))/\st'=st:=by
 refine bN ?_;rw[w43];refine h.get' ?_;refine(ML h.pg).same ?_
 have e:aj .add none true (.int .i64 24) (I p) st= .ok (I ((24+p:Nat):Int)) st:=by
  have:aj .add none true (I ((24:Nat):Int)) (I p) st= .ok (I ((24+p:Nat):Int)) st:=by rw[aw,cE,bz (by omega)];congr 2
  exact this
 rw[e,af,dv,af];exact⟨rfl,rfl⟩
theorem EE {G:GM}{key:cc}{f:cO}{rest:List cO}{L:List bA}(hp:uk G key f rest L)(hG:um G):(∃c,f.n.cells[f.at_]?=some c/\c.key=key)\/rO G G key f rest L 0:=by
 obtain⟨lo,hi,Ll,Lr,ps,Lt,pt,Ld,pd,hA⟩:=hp.CC
 by_cases h:∃c,f.n.cells[f.at_]?=some c/\c.key=key
 ·exact .inl h
 ·exact .inr (hA.aaK hG fun c hc hk=>h ⟨c,hc,hk⟩)
def Ye (τ:Nat)(π:PI)(G:GM)(key v:List UInt8)(L:List bA)(st:St)(vs:List CV)(s:St):Prop:=
 ∃x G1,vs=[.ptr τ 0, .str key, .str v,x]/\Kp π.W st s/\Tg τ π s G1/\um G1/\G.cJ<=G1.cJ/\G1.aE=G.aE/\
  ((G1=G/\G.root=0/\x= .ae)\/∃f rest k,uk G key f rest L/\rO G G1 key f rest L k/\rest.length<=16/\eP s π.W x (rest.reverse++[f]))
def zC (τ:Nat)(π:PI)(G:GM)(key v:List UInt8)(L:List bA)(st:St)(y:CV)(st':St):Prop:=
 if 48<key.length\/8192<v.length then y=I 1/\Kp [] st st' else if G.cJ<24+dK v.length then y=I 3/\Kp [] st st' else By τ π G (uN L key v) st y st'
theorem Qn (h:Tg τ π st G){L:List bA}(ht:ic G L)(key v:List UInt8):R 11 [.ptr τ 0, .str key, .str v] st (zC τ π G key v L st):=by
 refine bN ?_;rw[w11];have fP:∀b,st.next<=b->b∉π.all/\b≠τ:=fun b hb=>⟨fun hh=>by have:=h.pg.lt b hh;omega,fun e=>by have:=h.lt;omega⟩;have pZ:=h.PY;have ur:∀q,st.next<=q->q∉π.W:=fun q hq hh=>by have:=pZ q hh;omega
 have e0:aj .gtr none true (I key.length) (.int .i64 48) st= .ok (.bool (decide (48<key.length))) st:=by rw[aw,dq];congr 2;simp only[aBc];omega
 have e1:aj .gtr none true (I v.length) (.int .i64 8192) st= .ok (.bool (decide (8192<v.length))) st:=by rw[aw,dq];congr 2;simp only[aBc];omega
 have adS:∀K:CV->Prop,K (.bool (decide (48<key.length\/8192<v.length)))->us (aY (ak false (.bool (decide (48<key.length)))) st (.ok (.str v) st)) (fun x4=>us (aY (ak false (.bool (decide (48<key.length)))) st (bh .str x4 st)) fun x5=>us (aY (ak false (.bool (decide (48<key.length)))) st (aj .gtr none true x5 (.int .i64 8192) st)) fun x6=>us (ba (.bool (decide (48<key.length))) (.bool true) x6 st) K):=fun K hK=>by
  by_cases xF:48<key.length
  ·rw[aAJ (.inl xF)]at hK;simp only[aAJ xF,aH,aAz,aAO,aAU,cB,af,aG,aAY];exact hK
  ·simp only[aAB xF,aH,aAz,aAO,aAT,bo,af,aG,fe,e1]
   simpa[xF]using hK
 rw[cU,af,ag,aAH (by decide),fe,af,e0,af];refine adS _ ?_;rw[ag]
 by_cases rn:48<key.length\/8192<v.length
 ·rw[aAJ rn,aAI rfl];unfold zC;rw[aAI rn];exact⟨rfl,Kp.refl _ _⟩
 have RJ:key.length<=48:=by omega
 have hv8:v.length<=8192:=by omega
 rw[aAB rn,aAH (by decide),fe,af];refine(Ce (n:=v.length) (by omega)).same ?_;have hpN:dK v.length<=1000:=by unfold dK;split<;>omega
 refine(Jp h _ hpN).same ?_;rw[ag]
 by_cases jS:G.cJ<24+dK v.length
 ·rw[aAJ jS,aAI rfl];unfold zC;rw[aAH rn,aAI jS];exact⟨rfl,Kp.refl _ _⟩
 rw[aAB jS,aAH (by decide)];unfold zC;simp only[aAH rn,aAH jS];refine(Cd h ht key).mono ?_;rintro _ s3 ⟨k3,x,rfl,hx⟩;have t3:=h.still k3;have e2:∀s,aj .neq (some .int) true (I 0) (.int .i64 0) s= .ok (.bool false) s:=fun s=>rfl;rw[aD,af,aN,aD,af,e2,af,ag,aAH (by decide)];refine kX (Ye τ π G key v L st) ?_ ?_
 ·intro pe RL;rcases hx with⟨sr,rfl⟩|⟨f,rest,hp,yR,hst⟩
  ·have e3:aj .gtr none true (.int .i64 0) (.int .i64 0) s3= .ok (.bool false) s3:=rfl;rw[uP,af,e3,af,ag,aAH (by decide)];exact RL _ _ ⟨_,G,rfl,k3.mono (by simp),t3,ht.ok,aAE _,rfl, .inl ⟨rfl,sr,rfl⟩⟩
  ·obtain⟨qx,yW,fV,pz,HP⟩:=hp.size;have V9:=hst π.W pZ;have wb:(rest.reverse++[f]).length=rest.length+1:=by simp
   have hlen:=V9.len s3;rw[wb]at hlen;have e3:aj .gtr none true (I ((rest.length+1:Nat):Int)) (.int .i64 0) s3= .ok (.bool true) s3:=by rw[aw,dq,aAJ (by omega)]
   have e4:=xS (rest.length+1) (by omega) (by omega) s3 none;rw[aBX]at e4;obtain⟨vc,vk,c1,c2,jg⟩:=V9.row (i:=rest.length) (by simp);have hf:(rest.reverse++[f])[rest.length]'(by simp)=f:=by simp
   rw[hf]at c1 c2 jg;rw[hlen,af,e3,af,ag,aAI rfl,af,e4,af];refine jg _ ?_;refine nT c1.bG.2.1 c2.bG.2.1 ?_;have k24:Kp [] s3 (St.new s3 (.cells [I f.page,I f.at_, .bool f.n.leaf,vc,vk] 107 false)):=(Kp.refl [] s3).new _;have PR:(St.new s3 (.cells [I f.page,I f.at_, .bool f.n.leaf,vc,vk] 107 false)).mem.get s3.next=some (.cells [I f.page,I f.at_, .bool f.n.leaf,vc,vk] 107 false):=au _ _;generalize St.new s3 (.cells [I f.page,I f.at_, .bool f.n.leaf,vc,vk] 107 false)=iH at*;have t24:=t3.still k24;have c24:=c1.mono (k24.mono (by simp));have K24:Kp [] st iH:=k3.trans k24 (by simp);have Vg:=V9.mono (k24.mono (by simp));simp only[fl,ah,af,aA,PR,aq,aAF,Nat.reduceAdd,aAA,aAy,av,c24.len f.n.cells.length (bL _) (by omega) iH,dv]
   by_cases hlt:f.at_<f.n.cells.length
   ·rw[aAJ hlt];obtain⟨b,p,l,t,g,q1,q2,q3,q4,q5⟩:=c24.cellAt (L:=f.n.cells.map aU) (by omega) (fJ _) (i:=f.at_) (by simpa using hlt);have q6:=q5 0 (.str f.n.cells[f.at_].key) (by simp[aU]);rw[aBl]at q6;simp only[aH,aAY,bo,af,jI,ft,ah,aA,PR,aq,aAF,aBl,Nat.reduceAdd,aAA,aAy,av,q1,q2,q6,dX,qX,aG,ag]
    by_cases hk:f.n.cells[f.at_].key=key
    ·rw[aAJ hk,aAI rfl];obtain⟨lo,hi,Ll,Lr,ps,Lt,pt,Ld,pd,hA⟩:=hp.CC;obtain⟨w,po,hv,Wt,kW,Fa,_⟩:=hA.Tj ht.ok (aAC hlt) hk;refine c24.iT (L:=f.n.cells.map aU) (by omega) (fJ _) (by simpa using hlt) _ ?_;have e:(f.n.cells.map aU)[f.at_]'(by simpa using hlt)=aU f.n.cells[f.at_]:=by simp
     rw[e];have CW:=yW.cell _ (aAW hlt);rw[fV]at CW;refine(Bl t24 CW hv Wt).mono ?_;rintro _ lP ⟨rfl,Pu,t25⟩;rw[e2,af,ag,aAH (by decide)];have hD:=kW.ex;obtain⟨_,_,_,_,_,_,_,_,_,_,po',_,_,_,_,_,hD,eG,_⟩:=hD;refine RL _ _ ⟨_,_,rfl,(K24.mono (by simp)).trans Pu fun q hq=> .inl hq,t25,by rw[eG];exact hD.ok,by rw[Fa];omega,by rw[eG];exact hD.aE, .inr ⟨f,rest,1,hp,kW,yR,Vg.mono Pu⟩⟩
    ·rw[aAB hk,aAH (by decide)];rcases EE hp ht.ok with⟨c,hc,wg⟩|kW
     ·rw[aAC hlt]at hc;cases hc;exact absurd wg hk
     ·exact RL _ _ ⟨_,G,rfl,K24.mono (by simp),t24,ht.ok,aAE _,rfl, .inr ⟨f,rest,0,hp,kW,yR,Vg⟩⟩
   ·rw[aAB hlt];simp only[aH,aAz,aAO,aAY,cB,af,jI,ft,aG,ag];rcases EE hp ht.ok with⟨c,hc,wg⟩|kW
    ·obtain⟨h1,_⟩:=aAP.1 hc;exact absurd h1 hlt
    ·exact RL _ _ ⟨_,G,rfl,K24.mono (by simp),t24,ht.ok,aAE _,rfl, .inr ⟨f,rest,0,hp,kW,yR,Vg⟩⟩
 ·rintro _ s4 ⟨x,G1,rfl,K4,t4,ok1,Xe,aki,Jl⟩;simp only[aJ,aK];refine(Md t4 RJ hv8 (by omega)).mono ?_;rintro _ s5 ⟨k5,c,G2,pc,rfl,wg,CW,zd,t5⟩;have n5:=k5.next;have n4:=K4.next;have K5:Kp π.W st s5:=K4.trans k5 fun q hq=> .inl hq;rw[aD,af,aN,aD,af];refine tn rfl rfl (gp c) ?_;have k7:Kp [] s5 (St.new s5 (.cells (aU c) 109 false)):=(Kp.refl [] s5).new _;have g7:(St.new s5 (.cells (aU c) 109 false)).mem.get s5.next=some (.cells (aU c) 109 false):=au _ _;have n7:(St.new s5 (.cells (aU c) 109 false)).next=s5.next+1:=rfl;generalize St.new s5 (.cells (aU c) 109 false)=s7 at*;have t7:=t5.still k7;have K7:Kp π.W st s7:=K5.trans k7 (by simp);rw[e2,af,ag,aAH (by decide)];rcases Jl with⟨rfl,sr,rfl⟩|⟨f,rest,k,hp,kW,yR,hst⟩
  ·have hL0:L=[]:=by
    rcases ht.tree with h|⟨hh,ps,_,hs⟩
    ·exact h.2
    ·obtain⟨n,q,hn,_⟩:=hs;have:=hn.bP.1;omega
   subst hL0;have e3:aj .eql (some .int) true (.int .i64 0) (.int .i64 0) s7= .ok (.bool true) s7:=rfl;rw[uP,af,e3,af,ag,aAI rfl,aQ (n:=4) g7 rfl,af,zt (k:=4) rfl rfl rfl,aS,aX];have k8:Kp [] s7 (St.new s7 (.cells (aU c) 109 false)):=(Kp.refl [] s7).new _;have g8:(St.new s7 (.cells (aU c) 109 false)).mem.get s7.next=some (.cells (aU c) 109 false):=au _ _;have n8:(St.new s7 (.cells (aU c) 109 false)).next=s7.next+1:=rfl;generalize St.new s7 (.cells (aU c) 109 false)=s8 at*;have t8:=t7.still k8;have mC:bD [.bool false, .ae, .ae] [(0,1, .bool true),(1,1, .slice s7.next 0 1 1 0)] s8= .ok (.agg [.bool true, .slice s7.next 0 1 1 0, .ae]) s8:=rfl;rw[mC,af]
   have NC:IsNode s8 π.W (.agg [.bool true, .slice s7.next 0 1 1 0, .ae]) (fg [c]):=
    ⟨_,_,rfl, .inr ⟨s7.next,0,1,1,0,rfl,rfl,⟨aAE _, .inl rfl⟩, .inr ⟨ur _ (by omega),by omega,_,_,_,g8,by simp[aU],by simp[fg,bC,aU]⟩⟩, .inl ⟨rfl,rfl⟩⟩
   have Kz:=zd.free;obtain⟨l1,l2⟩:=M8 CW;have zg:=O7 zd.ok (show 0<G2.cJ by omega) l1 l2 (.inl rfl);refine(BI t8 (by omega) NC l1 l2).mono ?_;rintro _ s9 ⟨rfl,k9,t9⟩;rw[aD,af,aN,aD,af,e2,af,ag,aAH (by decide)];refine t9.get' ?_;refine(rY t9.pg _ (.inr zg.is.bP)).mono ?_;rintro _ df ⟨rfl,so,p10⟩;refine⟨rfl,(((K7.trans k8 (by simp)).trans k9 fun q hq=> .inl hq).trans so fun q hq=> .inl hq),_,t9.of so p10, ?_, ?_⟩
   ·have:=HZ zd CW zg
    rwa [wg]at this
   ·exact zg.aE.trans zd.aE
  ·obtain⟨qx,yW,fV,pz,HP⟩:=hp.size;have ZT:=hst.mono (k5.trans k7 (by simp));have wb:(rest.reverse++[f]).length=rest.length+1:=by simp
   have hlen:=ZT.len s7;rw[wb]at hlen;have e3:aj .eql (some .int) true (I ((rest.length+1:Nat):Int)) (.int .i64 0) s7= .ok (.bool false) s7:=by rw[aw,cz,aAB (by omega)]
   have e4:=xS (rest.length+1) (by omega) (by omega) s7 none;rw[aBX]at e4;obtain⟨vc,vk,c1,c2,jg⟩:=ZT.row (i:=rest.length) (by simp);have hf:(rest.reverse++[f])[rest.length]'(by simp)=f:=by simp
   rw[hf]at c1 c2 jg
   have E5:f.n.kids=[]:=by
    have:=yW.jf;rw[fV,aAI rfl]at this;exact aBa.1 this
   rw[hlen,af,e3,af,ag,aAH (by decide),af,e4,af];rw[fV]at jg;refine jg _ ?_;refine nT c1.bG.2.1 c2.bG.2.1 ?_;have k8:Kp [] s7 (St.new s7 (.cells [I f.page,I f.at_, .bool true,vc,vk] 107 false)):=(Kp.refl [] s7).new _;have g8:(St.new s7 (.cells [I f.page,I f.at_, .bool true,vc,vk] 107 false)).mem.get s7.next=some (.cells [I f.page,I f.at_, .bool true,vc,vk] 107 false):=au _ _;have n8:(St.new s7 (.cells [I f.page,I f.at_, .bool true,vc,vk] 107 false)).next=s7.next+1:=rfl;generalize St.new s7 (.cells [I f.page,I f.at_, .bool true,vc,vk] 107 false)=s8 at*;have g78:=(k8.keep s5.next (by omega) (by simp)).trans g7
   have HM:∀K:CV->Prop,K (.agg [.bool true,vc,vk])->LN 3 2 (.ptr s7.next 0) s8 K:=fun K hK=>by
    unfold LN;rw[ah,af,gH (n:=3) g8 (by simp),af];exact hK
   refine HM _ ?_;refine sh c1.bG.2.1 c2.bG.2.1 ?_;have k9:Kp [] s8 (St.new s8 (.cells [.bool true,vc,vk] 105 false)):=(Kp.refl [] s8).new _;have g9:(St.new s8 (.cells [.bool true,vc,vk] 105 false)).mem.get s8.next=some (.cells [.bool true,vc,vk] 105 false):=au _ _;have n9:(St.new s8 (.cells [.bool true,vc,vk] 105 false)).next=s8.next+1:=rfl;generalize St.new s8 (.cells [.bool true,vc,vk] 105 false)=s9 at*;have g89:=(k9.keep s7.next (by omega) (by simp)).trans g8;have g79:=(k9.keep s5.next (by omega) (by simp)).trans g78;have k79:Kp [] s7 s9:=k8.trans k9 (by simp);rw[fl,ah,af,aA,g9,aq];simp only[aAF,aAA,aAy,av];refine(vx ((c1.dM (Y:=[]) (by simp)).mono (k79.mono (by simp))) (eM _) (by rw[bL];omega)).mono ?_;rintro xc iL ⟨F1,Aj,o1,KO,_⟩;have n15:=Aj.next;have g15:=(Aj.keep s8.next (by omega) (by simp)).trans g9;have ans:=(Aj.keep s7.next (by omega) (by simp)).trans g89;have anu:=(Aj.keep s5.next (by omega) (by simp)).trans g79;obtain⟨Vx,QR⟩:=o1.cr;have qA:bp [.bool true,vc,vk] 1 [xc]=[.bool true,xc,vk]:=rfl;rw[Lim.fst,ah,af,aF,g15,aR,QR,aAF,qA];refine⟨⟨rfl,by simp[Vx],by simp⟩, ?_⟩;have Ko:Kp [] s7 (St.set iL s8.next (.cells [.bool true,xc,vk] 105 false)):=(k79.trans Aj (by simp)).set _ (.inr (by omega)) (by omega);have Ou:(St.set iL s8.next (.cells [.bool true,xc,vk] 105 false)).mem.get s8.next=some (.cells [.bool true,xc,vk] 105 false):=ao _ _ _;have adH:(St.set iL s8.next (.cells [.bool true,xc,vk] 105 false)).mem.get s7.next=_:=(al _ _ _ _ (by omega)).trans ans;have XQ:(St.set iL s8.next (.cells [.bool true,xc,vk] 105 false)).mem.get s5.next=_:=(al _ _ _ _ (by omega)).trans anu;have n16:(St.set iL s8.next (.cells [.bool true,xc,vk] 105 false)).next=iL.next:=rfl;have tp:∀b∈F1,s8.next<b/\b<iL.next:=fun b hb=>by have:=KO b hb;omega
   have o16:Own (St.set iL s8.next (.cells [.bool true,xc,vk] 105 false)) xc 4 109 (bC f.n.cells) F1:=o1.mono fun b hb=>by have:=tp b hb;rw[al _ _ _ _ (by omega)]
   generalize St.set iL s8.next (.cells [.bool true,xc,vk] 105 false)=dd at*;have K16:Kp π.W st dd:=K7.trans Ko (by simp);have t16:=t7.still Ko;have atc:=ZT.mono (Ko.mono (by simp));have asS:Sl dd π.W vk 1 (ck []):=by rw[<-E5];exact c2.mono (Ko.mono (by simp))
   refine kX (fun vs s=>∃vcn vkn,vs=[.ptr τ 0,x, .ptr s8.next 0]/\Kp π.W st s/\Tg τ π s G2/\eP s π.W x (rest.reverse++[f])/\s.mem.get s8.next=some (.cells [.bool true,vcn,vkn] 105 false)/\IsNode s π.W (.agg [.bool true,vcn,vkn]) (fg (f.n.cells.take f.at_++([c]++f.n.cells.drop (f.at_+k))))) ?_ ?_
   ·intro k41 abZ;have ZZ:Sl dd [] xc 4 (f.n.cells.map aU).flatten:=o16.sl fun b hb=>⟨by simp,by have:=tp b hb;omega⟩;simp only[fl,ah,af,aA,Ou,adH,aq,aAF,Nat.reduceAdd,aAA,aAy,av,ZZ.len f.n.cells.length (bL _) (by omega) dd,dv]
    have acg:k=0->R 51 [xc,I f.at_, .slice dd.next 0 1 1 0] (St.new dd (.cells (aU c) 109 false)) fun oI fy=>Lim.fst 1 1 (.ptr s8.next 0) oI fy fun zX=>k41 [.ptr τ 0,x, .ptr s8.next 0] zX:=by
     intro LH;have kA:Kp [] dd (St.new dd (.cells (aU c) 109 false)):=(Kp.refl [] dd).new _;have gA:(St.new dd (.cells (aU c) 109 false)).mem.get dd.next=some (.cells (aU c) 109 false):=au _ _;have nA:(St.new dd (.cells (aU c) 109 false)).next=dd.next+1:=rfl;generalize St.new dd (.cells (aU c) 109 false)=sA at*;have oA:=o16.keep kA fun b hb=>⟨by have:=tp b hb;omega,by simp⟩;refine(EL oA (bL _) (by omega) (fun b hb=>by have:=tp b hb;omega) gA (fun hh=>by have:=tp _ hh;omega) rfl (eM _) (gp _) HP).mono ?_;rintro oI fy ⟨F2,o2,IZ,fF2⟩;have n21:=IZ.next;have Wi:s8.next∉F1:=fun hh=>by have:=tp _ hh;omega
     have g21:=((IZ.keep s8.next (by omega) Wi).trans (kA.keep s8.next (by omega) (by simp))).trans Ou;obtain⟨oe1,oe2⟩:=o2.cr;have kG:bp [.bool true,xc,vk] 1 [oI]=[.bool true,oI,vk]:=rfl;rw[Lim.fst,ah,af,aF,g21,aR,oe2,aAF,kG];refine⟨⟨rfl,by simp[oe1],by simp⟩, ?_⟩
     have sn:∀b∈F2,s8.next<b/\b<fy.next:=fun b hb=>by
      obtain⟨p1,p2⟩:=fF2 b hb;refine⟨?_,p2⟩;rcases p1 with h|h
      ·have:=(tp b h).1;omega
      ·omega
     have H0:(bC f.n.cells).take (f.at_*4)++(aU c++(bC f.n.cells).drop (f.at_*4))=bC (fg (f.n.cells.take f.at_++([c]++f.n.cells.drop (f.at_+k)))).cells:=by
      rw[kz _ _ HP,kD _ _ HP,LH];show _=bC (f.n.cells.take f.at_++c::f.n.cells.drop f.at_);rw[gS]
      congr 1
     rw[H0]at o2;have o22:Own (St.set fy s8.next (.cells [.bool true,oI,vk] 105 false)) oI 4 109 (bC (fg (f.n.cells.take f.at_++([c]++f.n.cells.drop (f.at_+k)))).cells) F2:=o2.mono fun b hb=>by have:=sn b hb;rw[al _ _ _ _ (by omega)]
     have Re:Kp [] s7 (St.set fy s8.next (.cells [.bool true,oI,vk] 105 false)):=((Ko.trans kA (by simp)).trans IZ fun q hq=> .inr (by have:=tp q hq;omega)).set _ (.inr (by omega)) (by omega);have apb:Kp (s8.next::F1) dd (St.set fy s8.next (.cells [.bool true,oI,vk] 105 false)):=((kA.mono (by simp)).trans IZ fun q hq=> .inl (by simp[hq])).set _ (.inl (by simp)) (by omega);have XS:(St.set fy s8.next (.cells [.bool true,oI,vk] 105 false)).mem.get s8.next=some (.cells [.bool true,oI,vk] 105 false):=ao _ _ _;have n22:(St.set fy s8.next (.cells [.bool true,oI,vk] 105 false)).next=fy.next:=rfl;generalize St.set fy s8.next (.cells [.bool true,oI,vk] 105 false)=zX at*;have ahP:Sl zX π.W vk 1 (ck []):=by rw[<-E5];exact c2.mono (Re.mono (by simp))
     exact abZ _ _ ⟨oI,vk,rfl,K7.trans Re (by simp),t7.still Re,ZT.mono (Re.mono (by simp)),XS,oI,vk,rfl,o22.sl fun b hb=>⟨ur b (by have:=sn b hb;omega),by have:=sn b hb;omega⟩,ahP⟩
    by_cases hlt:f.at_<f.n.cells.length
    ·rw[aAJ hlt];obtain⟨b,p,l,t,g,q1,q2,q3,q4,q5⟩:=ZZ.cellAt (by omega) (fJ _) (i:=f.at_) (by simpa using hlt);have q6:=q5 0 (.str f.n.cells[f.at_].key) (by simp[aU]);rw[aBl]at q6;simp only[aH,aAY,bo,af,jI,ft,ah,aA,Ou,adH,aq,aAF,aBl,Nat.reduceAdd,aAA,aAy,av,q1,q2,q6,dX,qX,aG,ag]
     by_cases hk:f.n.cells[f.at_].key=key
     ·rw[aAJ hk,aAI rfl,aQ (n:=4) XQ rfl,af]
      have px:k=1:=by
       rcases kW.found with⟨h,_⟩|⟨_,_,h⟩
       ·exact h
       ·exact absurd hk (h _ (aAC hlt))
      obtain⟨bc,rfl,zf,anh⟩:=lG o16 (by omega) (bL _) (by omega);have hbc:=tp bc (by simp[zf])
      have Y3:cQ 4 (.slice bc 0 f.n.cells.length f.n.cells.length 4) (I f.at_) dd= .ok (.ptr bc (f.at_*4)) dd:=by
       have:=gf (size:=4) (off:=0) (cap:=f.n.cells.length) (grow:=4) hlt (.inr (aAE _)) dd (b:=bc)
       rwa [aAF]at this
      have Ww:bp (bC f.n.cells) (f.at_*4) (aU c)=bC (fg (f.n.cells.take f.at_++([c]++f.n.cells.drop (f.at_+k)))).cells:=by
       unfold bC;rw[wi (fJ _) _ (by simpa using hlt) _ rfl,px];unfold fg;rw[aCQ,aAI (by simpa using hlt)];simp[aCk,aBZ]
      unfold EN;rw[Y3,af,aF,anh,aR,aX,Ww];refine⟨⟨rfl,rfl,by rw[bL];omega⟩, ?_⟩;have Rf:Kp [] s7 (St.set dd bc (.cells (bC (fg (f.n.cells.take f.at_++([c]++f.n.cells.drop (f.at_+k)))).cells) 109 true)):=Ko.set _ (.inr (by omega)) (by omega);have ang:(St.set dd bc (.cells (bC (fg (f.n.cells.take f.at_++([c]++f.n.cells.drop (f.at_+k)))).cells) 109 true)).mem.get bc=some (.cells (bC (fg (f.n.cells.take f.at_++([c]++f.n.cells.drop (f.at_+k)))).cells) 109 true):=ao _ _ _;have Sc:(St.set dd bc (.cells (bC (fg (f.n.cells.take f.at_++([c]++f.n.cells.drop (f.at_+k)))).cells) 109 true)).mem.get s8.next=_:=(al _ _ _ _ (by omega)).trans Ou;have n17:(St.set dd bc (.cells (bC (fg (f.n.cells.take f.at_++([c]++f.n.cells.drop (f.at_+k)))).cells) 109 true)).next=dd.next:=rfl;generalize St.set dd bc (.cells (bC (fg (f.n.cells.take f.at_++([c]++f.n.cells.drop (f.at_+k)))).cells) 109 true)=kO at*;have XY:(fg (f.n.cells.take f.at_++([c]++f.n.cells.drop (f.at_+k)))).cells.length=f.n.cells.length:=by unfold fg;simp;omega
      have ahQ:Sl kO π.W vk 1 (ck []):=by rw[<-E5];exact c2.mono (Rf.mono (by simp))
      exact abZ _ _ ⟨_,vk,rfl,K7.trans Rf (by simp),t7.still Rf,ZT.mono (Rf.mono (by simp)),Sc,_,vk,rfl, .inr ⟨bc,0,_,_,4,rfl,by rw[bL,XY],⟨aAE _, .inr rfl⟩, .inr ⟨ur _ (by omega),by omega,_,_,_,ang,by rw[bL,XY];omega,by rw[aBg,aAK (by rw[bL,XY];omega)]⟩⟩,ahQ⟩
     ·rw[aAB hk,aAH (by decide),aQ (n:=4) XQ rfl,af,zt (k:=4) rfl rfl rfl,aS,aX];refine acg ?_;rcases kW.found with⟨_,c',oD,acG⟩|⟨h,_⟩
      ·rw[aAC hlt]at oD;cases oD;exact absurd acG hk
      ·exact h
    ·rw[aAB hlt];simp only[aH,aAz,aAO,aAY,cB,af,jI,ft,aG,ag];rw[aQ (n:=4) XQ rfl,af,zt (k:=4) rfl rfl rfl,aS,aX];refine acg ?_;rcases kW.found with⟨_,c',oD,acG⟩|⟨h,_⟩
     ·obtain⟨h1,_⟩:=aAP.1 oD;exact absurd h1 hlt
     ·exact h
   ·rintro _ kO ⟨vcn,vkn,rfl,K17,t17,aih,Sc,VB⟩;simp only[aJ,aK];obtain⟨gg,gs⟩:=kW.put zd wg CW;refine fY (n:=fg (f.n.cells.take f.at_++([c]++f.n.cells.drop (f.at_+k)))) Sc ?_;have Kz:=zd.free;refine(Js t17 gg gs (by omega) aih VB yR).mono ?_;rintro _ dj ⟨rfl,Pv,G',t18,ahZ,qz⟩;exact⟨rfl,K17.trans Pv fun q hq=> .inl hq,G',t18,ahZ,qz.trans (zd.aE.trans aki)⟩
end
section
variable {τ:Nat} {π:PI} {st st':St} {G:GM}
def Il (τ:Nat)(π:PI)(G:GM)(key:List UInt8)(L:List bA)(st:St)(y:CV)(st':St):Prop:=
 if 48<key.length then y= .tuple [.bool false,I 1]/\Kp [] st st' else if G.cJ<24 then y= .tuple [.bool false,I 3]/\Kp [] st st' else
  y= .tuple [.bool (kJ L key).isSome,I 0]/\Kp π.W st st'/\∃G',Tg τ π st' G'/\ic G' (pj L key)/\G'.aE=G.aE
theorem Qr (h:Tg τ π st G){L:List bA}(ht:ic G L)(key:cc):R 41 [.ptr τ 0, .str key] st (Il τ π G key L st):=by
 refine bN ?_;rw[w41];have fP:∀b,st.next<=b->b∉π.all/\b≠τ:=fun b hb=>⟨fun hh=>by have:=h.pg.lt b hh;omega,fun e=>by have:=h.lt;omega⟩;have pZ:=h.PY;have ur:∀q,st.next<=q->q∉π.W:=fun q hq hh=>by have:=pZ q hh;omega
 have e0:aj .gtr none true (I key.length) (.int .i64 48) st= .ok (.bool (decide (48<key.length))) st:=by rw[aw,dq];congr 2;simp only[aBc];omega
 rw[cU,af,ag,aAH (by decide),fe,af,e0,af,ag];unfold Il
 by_cases rn:48<key.length
 ·rw[aAJ rn,aAI rfl];simp only[aAI rn];exact⟨trivial,Kp.refl _ _⟩
 rw[aAB rn,aAH (by decide)];have hfk:=Jp h 0 (by omega);refine hfk.same ?_;rw[ag]
 by_cases jS:G.cJ<24+0
 ·rw[aAJ jS,aAI rfl];simp only[aAH rn];rw[aAI (by omega)];exact⟨trivial,Kp.refl _ _⟩
 rw[aAB jS,aAH (by decide)];simp only[aAH rn,aAH (show¬G.cJ<24 by omega)];refine(Cd h ht key).mono ?_;rintro _ s2 ⟨k2,x,rfl,hx⟩;have t2:=h.still k2;have e2:∀s,aj .neq (some .int) true (I 0) (.int .i64 0) s= .ok (.bool false) s:=fun s=>rfl;rw[aD,af,aN,aD,af,e2,af];simp only[aH,aAz,aAO,aAT,bo,af]
 have Vf:∀s,Kp [] st s->kJ L key=none->pj L key=L->(CV.tuple [.bool false, .int .i64 0]= .tuple [.bool (kJ L key).isSome,I 0]/\Kp π.W st s/\∃G',Tg τ π s G'/\ic G' (pj L key)/\G'.aE=G.aE):=fun s hs h1 h2=>by
  rw[h1,h2];exact⟨rfl,hs.mono (by simp),G,h.still hs,ht,rfl⟩
 rcases hx with⟨sr,rfl⟩|⟨f,rest,hp,yR,hst⟩
 ·have hL0:L=[]:=by
   rcases ht.tree with h|⟨hh,ps,_,hs⟩
   ·exact h.2
   ·obtain⟨n,q,hn,_⟩:=hs;have:=hn.bP.1;omega
  subst hL0;have e3:aj .eql (some .int) true (.int .i64 0) (.int .i64 0) s2= .ok (.bool true) s2:=rfl;simp only[uP,af,e3,aG,aAz,aAO,ag,aAY];exact Vf s2 k2 rfl rfl
 ·obtain⟨qx,yW,fV,pz,HP⟩:=hp.size;have Wa:=hst π.W pZ;have wb:(rest.reverse++[f]).length=rest.length+1:=by simp
  have hlen:=Wa.len s2;rw[wb]at hlen;have e3:aj .eql (some .int) true (I ((rest.length+1:Nat):Int)) (.int .i64 0) s2= .ok (.bool false) s2:=by rw[aw,cz,aAB (by omega)]
  have e4:=xS (rest.length+1) (by omega) (by omega) s2 none;rw[aBX]at e4;obtain⟨vc,vk,c1,c2,jg⟩:=Wa.row (i:=rest.length) (by simp);have hf:(rest.reverse++[f])[rest.length]'(by simp)=f:=by simp
  rw[hf]at c1 c2 jg
  have E5:f.n.kids=[]:=by
   have:=yW.jf;rw[fV,aAI rfl]at this;exact aBa.1 this
  simp only[hlen,af,e3,aG,aAz,aAO,ag,e4];rw[fV]at jg;refine jg _ ?_;refine nT c1.bG.2.1 c2.bG.2.1 ?_;have k4:Kp [] s2 (St.new s2 (.cells [I f.page,I f.at_, .bool true,vc,vk] 107 false)):=(Kp.refl [] s2).new _;have g4:(St.new s2 (.cells [I f.page,I f.at_, .bool true,vc,vk] 107 false)).mem.get s2.next=some (.cells [I f.page,I f.at_, .bool true,vc,vk] 107 false):=au _ _;have n4:(St.new s2 (.cells [I f.page,I f.at_, .bool true,vc,vk] 107 false)).next=s2.next+1:=rfl;generalize St.new s2 (.cells [I f.page,I f.at_, .bool true,vc,vk] 107 false)=s4 at*;have k2n:=k2.next;have t4:=t2.still k4;have c4:=c1.mono (k4.mono (by simp));have K4:Kp [] st s4:=k2.trans k4 (by simp);have st4:=Wa.mono (k4.mono (by simp));obtain⟨lo,hi,Ll,Lr,ps,Lt,pt,Ld,pd,hA⟩:=hp.CC;have e5:aj .eql (some .int) false (I f.at_) (I f.n.cells.length) s4= .ok (.bool (decide (f.at_=f.n.cells.length))) s4:=by rw[aw,cz];congr 2;simp only[aBc];omega
  simp only[fl,ah,af,aA,g4,aq,aAF,Nat.reduceAdd,aAA,aAy,av,c4.len f.n.cells.length (bL _) (by omega) s4,e5]
  by_cases CS:f.at_=f.n.cells.length
  ·obtain⟨_,qw,hde⟩:=hA.EI (fun c hc=>by rw[CS,aBs (aAE _)]at hc;cases hc);rw[aAJ CS];simp only[aH,aAz,aAO,aAU,cB,af,jI,ft,aG,aAY,ag];exact Vf s4 K4 qw hde
  ·have hlt:f.at_<f.n.cells.length:=by omega
   rw[aAB CS];obtain⟨b,p,l,t,g,q1,q2,q3,q4,q5⟩:=c4.cellAt (L:=f.n.cells.map aU) (by omega) (fJ _) (i:=f.at_) (by simpa using hlt);have q6:=q5 0 (.str f.n.cells[f.at_].key) (by simp[aU]);rw[aBl]at q6;simp only[aH,aAz,aAO,aAT,bo,af,jI,ft,ah,aA,g4,aq,aAF,aBl,Nat.reduceAdd,aAA,aAy,av,q1,q2,q6,dX,kQ,aG,ag]
   by_cases hk:f.n.cells[f.at_].key=key
   ·obtain⟨w,po,hv,Wt,kW,Fa,we⟩:=hA.Tj ht.ok (aAC hlt) hk;rw[aAJ hk,aAU,aAH (by decide)];refine c4.iT (L:=f.n.cells.map aU) (by omega) (fJ _) (by simpa using hlt) _ ?_;have e:(f.n.cells.map aU)[f.at_]'(by simpa using hlt)=aU f.n.cells[f.at_]:=by simp
    rw[e];have CW:=yW.cell _ (aAW hlt);rw[fV]at CW;refine(Bl t4 CW hv Wt).mono ?_;rintro _ s5 ⟨rfl,k5,t5⟩;have n5:=k5.next;have g5:=(k5.keep s2.next (by omega) (ur _ (by omega))).trans g4;have K5:Kp π.W st s5:=(K4.mono (by simp)).trans k5 fun q hq=> .inl hq;rw[e2,af,ag,aAH (by decide)]
    have HM:∀K:CV->Prop,K (.agg [.bool true,vc,vk])->LN 3 2 (.ptr s2.next 0) s5 K:=fun K hK=>by
     unfold LN;rw[ah,af,gH (n:=3) g5 (by simp),af];exact hK
    refine HM _ ?_;refine sh c1.bG.2.1 c2.bG.2.1 ?_;have c5:=(c4.mono k5);have d5:=((c2.mono (k4.mono (by simp))).mono k5);have k7:Kp [] s5 (St.new s5 (.cells [.bool true,vc,vk] 105 false)):=(Kp.refl [] s5).new _;have g7:(St.new s5 (.cells [.bool true,vc,vk] 105 false)).mem.get s5.next=some (.cells [.bool true,vc,vk] 105 false):=au _ _;have n7:(St.new s5 (.cells [.bool true,vc,vk] 105 false)).next=s5.next+1:=rfl;generalize St.new s5 (.cells [.bool true,vc,vk] 105 false)=s7 at*;have g47:=(k7.keep s2.next (by omega) (by simp)).trans g5;rw[bt,ah,af,aA,g7,aq];simp only[aAF,aAA,aAy,av];refine(vx ((c5.dM (Y:=[]) (by simp)).mono (k7.mono (by simp))) (eM _) (by rw[bL];omega)).mono ?_;rintro xc s8 ⟨F1,Aj,o1,KO,_⟩;have n8:=Aj.next;have g8:=(Aj.keep s5.next (by omega) (by simp)).trans g7;have g48:=(Aj.keep s2.next (by omega) (by simp)).trans g47;have tp:∀b∈F1,s5.next<b/\b<s8.next:=fun b hb=>by have:=KO b hb;omega
    simp only[ah,af,aA,g48,g47,aq,aAF,aAA,aAy,av,gF f.at_ (by omega),aCC,and_true];refine(FB (n:=f.n.cells.length) o1 (bL _) (by omega) (fun b hb=>by have:=tp b hb;omega) (eM _) hlt).mono ?_;rintro lX s9 ⟨o9,k9,n9⟩;have g9:=(k9.keep s5.next (by omega) (fun hh=>by have:=tp _ hh;omega)).trans g8
    have ec:(bC f.n.cells).take (f.at_*4)++(bC f.n.cells).drop ((f.at_+1)*4)=bC (fg (f.n.cells.take f.at_++f.n.cells.drop (f.at_+1))).cells:=by
     rw[kz _ _ (by omega),kD _ _ (by omega),<-gS];rfl
    rw[ec]at o9
    have ZW:=o9 (π.W++[s5.next]) fun b hb hh=>by
     have:=tp b hb;simp at hh;rcases hh with hh|hh
     ·exact ur b (by omega) hh
     ·omega
    have vk9:Sl s9 (π.W++[s5.next]) vk 1 (ck []):=by
     have e:ck []=ck f.n.kids:=by rw[E5]
     rw[e]
     have d7:=d5.dM (Y:=π.W++(s5.next::F1)) (by
      intro b hb;simp at hb;rcases hb with h|h|h
      ·exact .inl h
      ·right;omega
      ·right;have:=tp b h;omega)
     have sW:∀b∈π.W++[s5.next],b∈π.W++(s5.next::F1):=fun b hb=>by
      rcases aAM.1 hb with h|h
      ·exact aCt _ h
      ·have h2:b=s5.next:=aBM.1 h;rw[h2];exact aCS _ aBF
     have d9:=((d7.mono (k7.mono (by simp))).mono (Aj.mono (by simp))).mono (k9.mono (G:=π.W++(s5.next::F1)) (by intro b hb;left;simp[hb]));exact d9.dM fun b hb=> .inl (sW b hb)
    obtain⟨z1,z2,z3⟩:=ZW.bG;have qA:bp [.bool true,vc,vk] 1 [lX]=[.bool true,lX,vk]:=rfl;rw[aF,g9,aR,z3,qA];refine⟨⟨rfl,by simp[z2],by simp⟩, ?_⟩;have VL:Kp [s5.next] s9 (St.set s9 s5.next (.cells [.bool true,lX,vk] 105 false)):=(Kp.refl _ s9).set _ (.inl (by simp)) (by omega);have PS:(St.set s9 s5.next (.cells [.bool true,lX,vk] 105 false)).mem.get s5.next=some (.cells [.bool (fg (f.n.cells.take f.at_++f.n.cells.drop (f.at_+1))).leaf,lX,vk] 105 false):=ao _ _ _;generalize St.set s9 s5.next (.cells [.bool true,lX,vk] 105 false)=df at*;have VO:Kp [] s5 df:=((k7.trans Aj (by simp)).trans k9 fun q hq=> .inr (by have:=tp q hq;omega)).trans VL (by intro q hq;right;simp at hq;omega)
    have VC:IsNode df π.W (.agg [.bool (fg (f.n.cells.take f.at_++f.n.cells.drop (f.at_+1))).leaf,lX,vk]) (fg (f.n.cells.take f.at_++f.n.cells.drop (f.at_+1))):=
     ⟨lX,vk,rfl,(ZW.mono (VL.mono (by intro q hq;left;exact aCS _ hq))).dM (fun q hq=> .inl (aCt _ hq)),(vk9.mono (VL.mono (by intro q hq;left;exact aCS _ hq))).dM (fun q hq=> .inl (aCt _ hq))⟩
    have t10:=t5.still VO;have Qt:=(st4.mono k5).mono (VO.mono (by simp));refine fY PS ?_;obtain⟨gg,gs⟩:=kW.del;refine(Js t10 gg gs (by omega) Qt VC yR).mono ?_;rintro _ de ⟨rfl,qy,G',t11,aia,qz⟩;rw[e2,af,ag,aAH (by decide),we];have hD:=kW.ex;obtain⟨_,_,_,_,_,_,_,_,_,_,po',_,_,_,_,_,hD,eG,_⟩:=hD;exact⟨rfl,(K5.trans VO (by simp)).trans qy fun q hq=> .inl hq,G',t11,aia,qz.trans (by rw[eG];exact hD.aE)⟩
   ·obtain⟨_,qw,hde⟩:=hA.EI (fun c hc=>by rw[aAC hlt]at hc;cases hc;exact hk);rw[aAB hk,aAT,aAI rfl];exact Vf s4 K4 qw hde
end
