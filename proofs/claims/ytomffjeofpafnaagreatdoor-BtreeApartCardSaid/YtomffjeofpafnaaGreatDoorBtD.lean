import Derived.Test.YtomffjeofpafnaaGreatDoorBtC
namespace Lim
open Go
noncomputable section
structure qx (G G1:GM)(key:bZ)(f:cE)(rest:List cE)(L:List bB)(k:Nat):Prop where
 ex:∃lo hi Ll Lr ps Lt pt Ld pd vQ po Ah,nN G key f rest L lo hi Ll Lr ps Lt pt Ld pd/\eQ G (f.n.cells.drop (f.at_+k)) vQ Ah/\pd=po++Ah/\(∀x∈vQ,dW key x.1)/\Vt G po/\G1=fV G po/\((k=0/\Ld=vQ)\/∃w,Ld=(key,w)::vQ)
 found:(k=1/\∃c,f.n.cells[f.at_]?=some c/\c.key=key)\/(k=0/\G1=G/\∀c,f.n.cells[f.at_]?=some c->c.key≠key)
section
variable {G G1 G2:GM} {key:bZ} {f:cE} {rest:List cE} {L:List bB} {k:Nat} {lo:bZ} {hi:Option bZ} {Ll Lr:List bB} {ps:List Nat} {Lt:List bB} {pt:List Nat} {Ld:List bB} {pd:List Nat}
theorem nN.Ow (h:nN G key f rest L lo hi Ll Lr ps Lt pt Ld pd)(hG:tP G){c:da}(hc:f.n.cells[f.at_]?=some c)(hk:c.key=key):∃w po,zV G c w po/\po.Nodup/\qx G (fV G po) key f rest L 1/\(fV G po).ck=G.ck+po.length/\l5 L key=some w:=by
 obtain⟨w,po,vQ,Ah,a,b,rfl,rfl,e,hg⟩:=h.found hc hk;have iL:=h.nd
 have UB:po.Nodup:=by
  simp only[aBi,aBP]at iL;exact iL.2.1.2.1.1
 have hD:=Vi hG UB fun p hp=>h.cd.aE p (by simp[hp]);exact⟨w,po,a,UB,⟨⟨lo,hi,Ll,Lr,ps,Lt,pt,_,_,vQ,po,Ah,h,b,rfl,e,hD,rfl, .inr ⟨w,rfl⟩⟩, .inl ⟨rfl,c,hc,hk⟩⟩,hD.free,hg⟩
theorem nN.abp (h:nN G key f rest L lo hi Ll Lr ps Lt pt Ld pd)(hG:tP G)(hn:∀c,f.n.cells[f.at_]?=some c->c.key≠key):qx G G key f rest L 0:=
 ⟨⟨lo,hi,Ll,Lr,ps,Lt,pt,Ld,pd,Ld,[],pd,h,h.cd,rfl,(h.E5 hn).1,Vi hG (by simp) (by simp),rfl, .inl ⟨rfl,rfl⟩⟩, .inr ⟨rfl,rfl,hn⟩⟩
theorem yX {l1 l2:List da}{cm:List da}{n:aZ}{i k:Nat}(hn:n.ok)(hs:n.size<=512)(fp:n.leaf=true)(XT:∀c∈cm,c.ok true)(h1:cm.length<=1):(cR (n.cells.take i++(cm++n.cells.drop (i+k)))).size<=640:=by
 rw[bS,fp,aBb rfl]at hs;have h2:=hO true n.cells i;have h3:=hO true (n.cells.drop i) k;rw[aDk]at h3
 have h4:(cJ true cm).length<=115:=by
  cases cm with
  |nil=>simp[cJ]
  |cons c cm=>cases cm with
   |nil=>
    have:=(hU (XT c (by simp))).2.1;rw[fq];simpa[cJ]using this
   |cons d cm=>simp at h1
 have h5:=dZ true n.cells
 have h6:(cR (n.cells.take i++(cm++n.cells.drop (i+k)))).cells.length<=600:=by
  unfold cR;simp;omega
 have h7:=pN (n:=(cR (n.cells.take i++(cm++n.cells.drop (i+k)))).cells.length) (by omega);rw[bS];unfold cR at h7⊢;simp only[aBr,ep,aAY]at h7⊢;omega
theorem qx.put (h:qx G G1 key f rest L k){c:da}{v:List UInt8}{pc:List Nat}(hl:TG G1 G2 c v pc)(hk:c.key=key)(hc:c.ok true):
 xJ G2 0 f.page rest (cR (f.n.cells.take f.at_++([c]++f.n.cells.drop (f.at_+k)))) (lC L key v)/\(cR (f.n.cells.take f.at_++([c]++f.n.cells.drop (f.at_+k)))).size<=640:=by
 obtain⟨⟨lo,hi,Ll,Lr,ps,Lt,pt,Ld,pd,vQ,po,Ah,hA,QU,UC,Al,hD,rfl,hLd⟩,_⟩:=h
 have e:lC L key v=Ll++((Lt++([(key,v)]++vQ))++Lr):=by
  have hA1:∀x∈Ll++Lt,dW x.1 key:=fun x hx=>by
   rcases aBe.1 hx with hx|hx
   ·exact hA.kl x hx
   ·exact hA.kt x hx
  have hB1:∀x∈vQ++Lr,dW key x.1:=fun x hx=>by
   rcases aBe.1 hx with hx|hx
   ·exact Al x hx
   ·exact hA.kr x hx
  rcases hLd with⟨_,rfl⟩|⟨w,rfl⟩
  ·have e:L=(Ll++Lt)++(Ld++Lr):=by rw[<-hA.total];simp
   rw[e,NG hA1 hB1];simp
  ·have e:L=(Ll++Lt)++(key,w)::(vQ++Lr):=by rw[<-hA.total];simp
   rw[e,NF hA1 hB1];simp
 rw[e];refine⟨Bv (pm:=pc) (po:=po) hA hl.ok (hl.root.trans hD.root) QU UC (fun qs Xg=> ?_) ⟨v,pc,[],[],hl.val,⟨rfl,rfl⟩,by rw[hk],by simp⟩ (by simp[hk,hc]) (by simp) hl.nd (fun x hx hu=>hl.new x hx ((hD.bL x).2 hu)) Al,yX (l1:=[]) (l2:=[]) hA.node.ok hA.node.size hA.leaf (by simp[hc]) (by simp)⟩;have k1:Kept G (fV G po) qs:=fun q hq=>⟨fun hu=>(hD.bL q).2 (Xg q hq),hD.cont q⟩;exact k1.trans (hl.kept qs fun x hx=>(hD.bL x).2 (Xg x hx))
theorem qx.del (h:qx G G1 key f rest L 1):xJ G1 0 f.page rest (cR (f.n.cells.take f.at_++f.n.cells.drop (f.at_+1))) (AS L key)/\(cR (f.n.cells.take f.at_++f.n.cells.drop (f.at_+1))).size<=640:=by
 obtain⟨⟨lo,hi,Ll,Lr,ps,Lt,pt,Ld,pd,vQ,po,Ah,hA,QU,UC,Al,hD,rfl,hLd⟩,_⟩:=h
 have e:AS L key=Ll++((Lt++([]++vQ))++Lr):=by
  have hA1:∀x∈Ll++Lt,dW x.1 key:=fun x hx=>by
   rcases aBe.1 hx with hx|hx
   ·exact hA.kl x hx
   ·exact hA.kt x hx
  have hB1:∀x∈vQ++Lr,dW key x.1:=fun x hx=>by
   rcases aBe.1 hx with hx|hx
   ·exact Al x hx
   ·exact hA.kr x hx
  rcases hLd with⟨h,_⟩|⟨w,rfl⟩
  ·cases h
  ·have e:L=(Ll++Lt)++(key,w)::(vQ++Lr):=by rw[<-hA.total];simp
   rw[e,PX hA1 hB1];simp
 rw[e];have hl:=Bv (cm:=[]) (Lm:=[]) (pm:=[]) (po:=po) hA hD.ok hD.root QU UC (fun qs Xg q hq=>⟨fun hu=>(hD.bL q).2 (Xg q hq),hD.cont q⟩) ⟨rfl,rfl⟩ (by simp) (by simp) (by simp) (by simp) Al;rw[aBw]at hl;have hs:=yX (l1:=[]) (l2:=[]) (cm:=[]) (i:=f.at_) (k:=1) hA.node.ok hA.node.size hA.leaf (by simp) (by simp);rw[aBw]at hs;exact⟨hl,hs⟩
theorem zC {c:da}{v:List UInt8}{pc:List Nat}{r:Nat}(hl:TG G G1 c v pc)(hc:c.ok true)(xm:GD G1 (cR [c]) G2 r):fv (G2.gD r) (lC [] c.key v):=by
 have XX:eQ G1 [c] [(c.key,v)] pc:=⟨v,pc,[],[],hl.val,⟨rfl,rfl⟩,rfl,by simp⟩;have hr:r∉pc:=fun hh=>xm.not (XX.aE r hh);refine⟨xm.ok.gD _, .inr ⟨0,r::pc,aBi.2 ⟨hr,hl.nd⟩,cR [c],pc,⟨xm.is.bL,xm.is.cont,xm.is.ok,xm.is.size,xm.is.full⟩,⟨rfl,trivial, ?_,fun d hd=>⟨?_,trivial⟩⟩,rfl⟩⟩
 ·exact XX.kept (G':=G2.gD r) (xm.kept pc hr)
 ·exact je _
theorem EZ {c:da}(hc:c.ok true):(cR [c]).ok/\(cR [c]).size<=512:=by
 refine⟨⟨fun d hd=>by simp[cR]at hd;subst hd;exact hc,by unfold iw cR;simp,rfl,by simp[cR]⟩, ?_⟩;have:=(hU hc).2.1;have h2:(uv ([c]:List da).length).length=1:=ey (by simp);have h3:cJ true [c]=gW true c:=by simp[cJ]
 rw[bS];unfold cR;simp only[h2,h3,aBr];omega
end
set_option maxRecDepth 100000
section
variable {τ:Nat} {π:PI} {st st':St} {G:GM}
theorem Dy (h:Tg τ π st G)(p:Nat)(hp:p<=1000):R 43 [.ptr τ 0,I p] st fun v st'=>v= .bool (decide (G.ck<24+p))/\st'=st:=by
 refine bO ?_;rw[w43];refine h.get' ?_;refine(NK h.pg).same ?_
 have e:aj .add none true (.int .i64 24) (I p) st= .ok (I ((24+p:Nat):Int)) st:=by
  have:aj .add none true (I ((24:Nat):Int)) (I p) st= .ok (I ((24+p:Nat):Int)) st:=by rw[av,cN,bD (by omega)];congr 2
  exact this
 rw[e,af,dM,af];exact⟨rfl,rfl⟩
theorem vn {G:GM}{key:bZ}{f:cE}{rest:List cE}{L:List bB}(hp:jI G key f rest L)(hG:tP G):(∃c,f.n.cells[f.at_]?=some c/\c.key=key)\/qx G G key f rest L 0:=by
 obtain⟨lo,hi,Ll,Lr,ps,Lt,pt,Ld,pd,hA⟩:=hp.yY
 by_cases h:∃c,f.n.cells[f.at_]?=some c/\c.key=key
 ·exact .inl h
 ·exact .inr (hA.abp hG fun c hc hk=>h ⟨c,hc,hk⟩)
def YM (τ:Nat)(π:PI)(G:GM)(key v:List UInt8)(L:List bB)(st:St)(vs:List CV)(s:St):Prop:=
 ∃x G1,vs=[.ptr τ 0, .str key, .str v,x]/\Kp π.W st s/\Tg τ π s G1/\tP G1/\G.ck<=G1.ck/\G1.aE=G.aE/\
  ((G1=G/\G.root=0/\x= .ae)\/∃f rest k,jI G key f rest L/\qx G G1 key f rest L k/\rest.length<=16/\dN s π.W x (rest.reverse++[f]))
def zX (τ:Nat)(π:PI)(G:GM)(key v:List UInt8)(L:List bB)(st:St)(y:CV)(st':St):Prop:=
 if 48<key.length\/8192<v.length then y=I 1/\Kp [] st st' else if G.ck<24+eJ v.length then y=I 3/\Kp [] st st' else BX τ π G (lC L key v) st y st'
theorem Ry (h:Tg τ π st G){L:List bB}(ht:fv G L)(key v:List UInt8):R 11 [.ptr τ 0, .str key, .str v] st (zX τ π G key v L st):=by
 refine bO ?_;rw[w11];have fP:∀b,st.next<=b->b∉π.all/\b≠τ:=fun b hb=>⟨fun hh=>by have:=h.pg.lt b hh;omega,fun e=>by have:=h.lt;omega⟩;have mu:=h.LR;have rH:∀q,st.next<=q->q∉π.W:=fun q hq hh=>by have:=mu q hh;omega
 have e0:aj .gtr none true (I key.length) (.int .i64 48) st= .ok (.bool (decide (48<key.length))) st:=by rw[av,dj];congr 2;simp only[aBu];omega
 have e1:aj .gtr none true (I v.length) (.int .i64 8192) st= .ok (.bool (decide (8192<v.length))) st:=by rw[av,dj];congr 2;simp only[aBu];omega
 have PN:∀K:CV->Prop,K (.bool (decide (48<key.length\/8192<v.length)))->us (bg (al false (.bool (decide (48<key.length)))) st (.ok (.str v) st)) (fun x4=>us (bg (al false (.bool (decide (48<key.length)))) st (bo .str x4 st)) fun x5=>us (bg (al false (.bool (decide (48<key.length)))) st (aj .gtr none true x5 (.int .i64 8192) st)) fun x6=>us (bk (.bool (decide (48<key.length))) (.bool true) x6 st) K):=fun K hK=>by
  by_cases JK:48<key.length
  ·rw[aBc (.inl JK)]at hK;simp only[aBc JK,aG,aAR,aBf,aBm,cc,af,aF,aBr];exact hK
  ·simp only[aAW JK,aG,aAR,aBf,aBk,bh,af,aF,fh,e1]
   simpa[JK]using hK
 rw[cX,af,ag,aAZ (by decide),fh,af,e0,af];refine PN _ ?_;rw[ag]
 by_cases vy:48<key.length\/8192<v.length
 ·rw[aBc vy,aBb rfl];unfold zX;rw[aBb vy];exact⟨rfl,Kp.refl _ _⟩
 have Ie:key.length<=48:=by omega
 have hv8:v.length<=8192:=by omega
 rw[aAW vy,aAZ (by decide),fh,af];refine(xY (n:=v.length) (by omega)).same ?_;have hpN:eJ v.length<=1000:=by unfold eJ;split<;>omega
 refine(Dy h _ hpN).same ?_;rw[ag]
 by_cases iR:G.ck<24+eJ v.length
 ·rw[aBc iR,aBb rfl];unfold zX;rw[aAZ vy,aBb iR];exact⟨rfl,Kp.refl _ _⟩
 rw[aAW iR,aAZ (by decide)];unfold zX;simp only[aAZ vy,aAZ iR];refine(xX h ht key).mono ?_;rintro _ s3 ⟨k3,x,rfl,hx⟩;have t3:=h.still k3;have e2:∀s,aj .neq (some .int) true (I 0) (.int .i64 0) s= .ok (.bool false) s:=fun s=>rfl;rw[aD,af,aJ,aD,af,e2,af,ag,aAZ (by decide)];refine jU (YM τ π G key v L st) ?_ ?_
 ·intro nQ Fz;rcases hx with⟨pB,rfl⟩|⟨f,rest,hp,vu,hst⟩
  ·have e3:aj .gtr none true (.int .i64 0) (.int .i64 0) s3= .ok (.bool false) s3:=rfl;rw[rk,af,e3,af,ag,aAZ (by decide)];exact Fz _ _ ⟨_,G,rfl,k3.mono (by simp),t3,ht.ok,aAU _,rfl, .inl ⟨rfl,pB,rfl⟩⟩
  ·obtain⟨oF,pD,fp,nR,wz⟩:=hp.size;have HS:=hst π.W mu;have tH:(rest.reverse++[f]).length=rest.length+1:=by simp
   have hlen:=HS.len s3;rw[tH]at hlen;have e3:aj .gtr none true (I ((rest.length+1:Nat):Int)) (.int .i64 0) s3= .ok (.bool true) s3:=by rw[av,dj,aBc (by omega)]
   have e4:=tV (rest.length+1) (by omega) (by omega) s3 none;rw[aCc]at e4;obtain⟨vc,vk,c1,c2,gw⟩:=HS.row (i:=rest.length) (by simp);have hf:(rest.reverse++[f])[rest.length]'(by simp)=f:=by simp
   rw[hf]at c1 c2 gw;rw[hlen,af,e3,af,ag,aBb rfl,af,e4,af];refine gw _ ?_;refine jY c1.bu.2.1 c2.bu.2.1 ?_;have QE:Kp [] s3 (St.new s3 (.cells [I f.page,I f.at_, .bool f.n.leaf,vc,vk] 107 false)):=(Kp.refl [] s3).new _;have Lp:(St.new s3 (.cells [I f.page,I f.at_, .bool f.n.leaf,vc,vk] 107 false)).mem.get s3.next=some (.cells [I f.page,I f.at_, .bool f.n.leaf,vc,vk] 107 false):=aq _ _;generalize St.new s3 (.cells [I f.page,I f.at_, .bool f.n.leaf,vc,vk] 107 false)=ix at*;have t24:=t3.still QE;have ZU:=c1.mono (QE.mono (by simp));have ZV:Kp [] st ix:=k3.trans QE (by simp);have Km:=HS.mono (QE.mono (by simp));simp only[fl,ah,af,az,Lp,ar,aAT,Nat.reduceAdd,aAS,aAQ,au,ZU.len f.n.cells.length (br _) (by omega) ix,dM]
   by_cases hlt:f.at_<f.n.cells.length
   ·rw[aBc hlt];obtain⟨b,p,l,t,g,q1,q2,q3,q4,q5⟩:=ZU.cellAt (L:=f.n.cells.map aQ) (by omega) (eV _) (i:=f.at_) (by simpa using hlt);have q6:=q5 0 (.str f.n.cells[f.at_].key) (by simp[aQ]);rw[aBJ]at q6;simp only[aG,aBr,bh,af,iU,gM,ah,az,Lp,ar,aAT,aBJ,Nat.reduceAdd,aAS,aAQ,au,q1,q2,q6,eT,ph,aF,ag]
    by_cases hk:f.n.cells[f.at_].key=key
    ·rw[aBc hk,aBb rfl];obtain⟨lo,hi,Ll,Lr,ps,Lt,pt,Ld,pd,hA⟩:=hp.yY;obtain⟨w,po,hv,UB,jx,tI,_⟩:=hA.Ow ht.ok (aAV hlt) hk;refine ZU.jG (L:=f.n.cells.map aQ) (by omega) (eV _) (by simpa using hlt) _ ?_;have e:(f.n.cells.map aQ)[f.at_]'(by simpa using hlt)=aQ f.n.cells[f.at_]:=by simp
     rw[e];have vU:=pD.cell _ (aBq hlt);rw[fp]at vU;refine(BJ t24 vU hv UB).mono ?_;rintro _ lM ⟨rfl,QD,t25⟩;rw[e2,af,ag,aAZ (by decide)];have hD:=jx.ex;obtain⟨_,_,_,_,_,_,_,_,_,_,po',_,_,_,_,_,hD,eG,_⟩:=hD;refine Fz _ _ ⟨_,_,rfl,(ZV.mono (by simp)).trans QD fun q hq=> .inl hq,t25,by rw[eG];exact hD.ok,by rw[tI];omega,by rw[eG];exact hD.aE, .inr ⟨f,rest,1,hp,jx,vu,Km.mono QD⟩⟩
    ·rw[aAW hk,aAZ (by decide)];rcases vn hp ht.ok with⟨c,hc,rG⟩|jx
     ·rw[aAV hlt]at hc;cases hc;exact absurd rG hk
     ·exact Fz _ _ ⟨_,G,rfl,ZV.mono (by simp),t24,ht.ok,aAU _,rfl, .inr ⟨f,rest,0,hp,jx,vu,Km⟩⟩
   ·rw[aAW hlt];simp only[aG,aAR,aBf,aBr,cc,af,iU,gM,aF,ag];rcases vn hp ht.ok with⟨c,hc,rG⟩|jx
    ·obtain⟨h1,_⟩:=aBg.1 hc;exact absurd h1 hlt
    ·exact Fz _ _ ⟨_,G,rfl,ZV.mono (by simp),t24,ht.ok,aAU _,rfl, .inr ⟨f,rest,0,hp,jx,vu,Km⟩⟩
 ·rintro _ s4 ⟨x,G1,rfl,K4,t4,V7,XI,akC,BG⟩;simp only[aK,aL];refine(Eb t4 Ie hv8 (by omega)).mono ?_;rintro _ s5 ⟨k5,c,G2,pc,rfl,rG,vU,oG,t5⟩;have n5:=k5.next;have n4:=K4.next;have K5:Kp π.W st s5:=K4.trans k5 fun q hq=> .inl hq;rw[aD,af,aJ,aD,af];refine rq rfl rfl (fk c) ?_;have k7:Kp [] s5 (St.new s5 (.cells (aQ c) 109 false)):=(Kp.refl [] s5).new _;have g7:(St.new s5 (.cells (aQ c) 109 false)).mem.get s5.next=some (.cells (aQ c) 109 false):=aq _ _;have n7:(St.new s5 (.cells (aQ c) 109 false)).next=s5.next+1:=rfl;generalize St.new s5 (.cells (aQ c) 109 false)=s7 at*;have t7:=t5.still k7;have K7:Kp π.W st s7:=K5.trans k7 (by simp);rw[e2,af,ag,aAZ (by decide)];rcases BG with⟨rfl,pB,rfl⟩|⟨f,rest,k,hp,jx,vu,hst⟩
  ·have hL0:L=[]:=by
    rcases ht.tree with h|⟨hh,ps,_,hs⟩
    ·exact h.2
    ·obtain⟨n,q,hn,_⟩:=hs;have:=hn.bL.1;omega
   subst hL0;have e3:aj .eql (some .int) true (.int .i64 0) (.int .i64 0) s7= .ok (.bool true) s7:=rfl;rw[rk,af,e3,af,ag,aBb rfl,aO (n:=4) g7 rfl,af,rT (k:=4) rfl rfl rfl,aT,aU];have k8:Kp [] s7 (St.new s7 (.cells (aQ c) 109 false)):=(Kp.refl [] s7).new _;have g8:(St.new s7 (.cells (aQ c) 109 false)).mem.get s7.next=some (.cells (aQ c) 109 false):=aq _ _;have n8:(St.new s7 (.cells (aQ c) 109 false)).next=s7.next+1:=rfl;generalize St.new s7 (.cells (aQ c) 109 false)=s8 at*;have t8:=t7.still k8;have mP:bJ [.bool false, .ae, .ae] [(0,1, .bool true),(1,1, .slice s7.next 0 1 1 0)] s8= .ok (.agg [.bool true, .slice s7.next 0 1 1 0, .ae]) s8:=rfl;rw[mP,af]
   have Fe:IsNode s8 π.W (.agg [.bool true, .slice s7.next 0 1 1 0, .ae]) (cR [c]):=
    ⟨_,_,rfl, .inr ⟨s7.next,0,1,1,0,rfl,rfl,⟨aAU _, .inl rfl⟩, .inr ⟨rH _ (by omega),by omega,_,_,_,g8,by simp[aQ],by simp[cR,bj,aQ]⟩⟩, .inl ⟨rfl,rfl⟩⟩
   have Ii:=oG.free;obtain⟨l1,l2⟩:=EZ vU;have xm:=JY oG.ok (show 0<G2.ck by omega) l1 l2 (.inl rfl);refine(xQ t8 (by omega) Fe l1 l2).mono ?_;rintro _ s9 ⟨rfl,k9,t9⟩;rw[aD,af,aJ,aD,af,e2,af,ag,aAZ (by decide)];refine t9.get' ?_;refine(pe t9.pg _ (.inr xm.is.bL)).mono ?_;rintro _ dd ⟨rfl,qj,VZ⟩;refine⟨rfl,(((K7.trans k8 (by simp)).trans k9 fun q hq=> .inl hq).trans qj fun q hq=> .inl hq),_,t9.of qj VZ, ?_, ?_⟩
   ·have:=zC oG vU xm
    rwa [rG]at this
   ·exact xm.aE.trans oG.aE
  ·obtain⟨oF,pD,fp,nR,wz⟩:=hp.size;have Nd:=hst.mono (k5.trans k7 (by simp));have tH:(rest.reverse++[f]).length=rest.length+1:=by simp
   have hlen:=Nd.len s7;rw[tH]at hlen;have e3:aj .eql (some .int) true (I ((rest.length+1:Nat):Int)) (.int .i64 0) s7= .ok (.bool false) s7:=by rw[av,cB,aAW (by omega)]
   have e4:=tV (rest.length+1) (by omega) (by omega) s7 none;rw[aCc]at e4;obtain⟨vc,vk,c1,c2,gw⟩:=Nd.row (i:=rest.length) (by simp);have hf:(rest.reverse++[f])[rest.length]'(by simp)=f:=by simp
   rw[hf]at c1 c2 gw
   have vz:f.n.kids=[]:=by
    have:=pD.iQ;rw[fp,aBb rfl]at this;exact aBn.1 this
   rw[hlen,af,e3,af,ag,aAZ (by decide),af,e4,af];rw[fp]at gw;refine gw _ ?_;refine jY c1.bu.2.1 c2.bu.2.1 ?_;have k8:Kp [] s7 (St.new s7 (.cells [I f.page,I f.at_, .bool true,vc,vk] 107 false)):=(Kp.refl [] s7).new _;have g8:(St.new s7 (.cells [I f.page,I f.at_, .bool true,vc,vk] 107 false)).mem.get s7.next=some (.cells [I f.page,I f.at_, .bool true,vc,vk] 107 false):=aq _ _;have n8:(St.new s7 (.cells [I f.page,I f.at_, .bool true,vc,vk] 107 false)).next=s7.next+1:=rfl;generalize St.new s7 (.cells [I f.page,I f.at_, .bool true,vc,vk] 107 false)=s8 at*;have g78:=(k8.keep s5.next (by omega) (by simp)).trans g7
   have Dr:∀K:CV->Prop,K (.agg [.bool true,vc,vk])->JM 3 2 (.ptr s7.next 0) s8 K:=fun K hK=>by
    unfold JM;rw[ah,af,gq (n:=3) g8 (by simp),af];exact hK
   refine Dr _ ?_;refine qb c1.bu.2.1 c2.bu.2.1 ?_;have k9:Kp [] s8 (St.new s8 (.cells [.bool true,vc,vk] 105 false)):=(Kp.refl [] s8).new _;have g9:(St.new s8 (.cells [.bool true,vc,vk] 105 false)).mem.get s8.next=some (.cells [.bool true,vc,vk] 105 false):=aq _ _;have n9:(St.new s8 (.cells [.bool true,vc,vk] 105 false)).next=s8.next+1:=rfl;generalize St.new s8 (.cells [.bool true,vc,vk] 105 false)=s9 at*;have g89:=(k9.keep s7.next (by omega) (by simp)).trans g8;have g79:=(k9.keep s5.next (by omega) (by simp)).trans g78;have k79:Kp [] s7 s9:=k8.trans k9 (by simp);rw[fl,ah,af,az,g9,ar];simp only[aAT,aAS,aAQ,au];refine(sO ((c1.ef (Y:=[]) (by simp)).mono (k79.mono (by simp))) (dK _) (by rw[br];omega)).mono ?_;rintro xc fZ ⟨F1,wu,o1,Iv,_⟩;have n15:=wu.next;have g15:=(wu.keep s8.next (by omega) (by simp)).trans g9;have Yl:=(wu.keep s7.next (by omega) (by simp)).trans g89;have Ym:=(wu.keep s5.next (by omega) (by simp)).trans g79;obtain⟨RY,NX⟩:=o1.cq;have pC:bt [.bool true,vc,vk] 1 [xc]=[.bool true,xc,vk]:=rfl;rw[Lim.fst,ah,af,aH,g15,aS,NX,aAT,pC];refine⟨⟨rfl,by simp[RY],by simp⟩, ?_⟩;have wv:Kp [] s7 (St.set fZ s8.next (.cells [.bool true,xc,vk] 105 false)):=(k79.trans wu (by simp)).set _ (.inr (by omega)) (by omega);have GU:(St.set fZ s8.next (.cells [.bool true,xc,vk] 105 false)).mem.get s8.next=some (.cells [.bool true,xc,vk] 105 false):=ao _ _ _;have Pu:(St.set fZ s8.next (.cells [.bool true,xc,vk] 105 false)).mem.get s7.next=_:=(ak _ _ _ _ (by omega)).trans Yl;have Ip:(St.set fZ s8.next (.cells [.bool true,xc,vk] 105 false)).mem.get s5.next=_:=(ak _ _ _ _ (by omega)).trans Ym;have n16:(St.set fZ s8.next (.cells [.bool true,xc,vk] 105 false)).next=fZ.next:=rfl;have oT:∀b∈F1,s8.next<b/\b<fZ.next:=fun b hb=>by have:=Iv b hb;omega
   have V9:Own (St.set fZ s8.next (.cells [.bool true,xc,vk] 105 false)) xc 4 109 (bj f.n.cells) F1:=o1.mono fun b hb=>by have:=oT b hb;rw[ak _ _ _ _ (by omega)]
   generalize St.set fZ s8.next (.cells [.bool true,xc,vk] 105 false)=cD at*;have K16:Kp π.W st cD:=K7.trans wv (by simp);have t16:=t7.still wv;have aiz:=Nd.mono (wv.mono (by simp));have aim:Sl cD π.W vk 1 (bU []):=by rw[<-vz];exact c2.mono (wv.mono (by simp))
   refine jU (fun vs s=>∃VJ VG,vs=[.ptr τ 0,x, .ptr s8.next 0]/\Kp π.W st s/\Tg τ π s G2/\dN s π.W x (rest.reverse++[f])/\s.mem.get s8.next=some (.cells [.bool true,VJ,VG] 105 false)/\IsNode s π.W (.agg [.bool true,VJ,VG]) (cR (f.n.cells.take f.at_++([c]++f.n.cells.drop (f.at_+k))))) ?_ ?_
   ·intro Za OZ;have Nj:Sl cD [] xc 4 (f.n.cells.map aQ).flatten:=V9.sl fun b hb=>⟨by simp,by have:=oT b hb;omega⟩;simp only[fl,ah,af,az,GU,Pu,ar,aAT,Nat.reduceAdd,aAS,aAQ,au,Nj.len f.n.cells.length (br _) (by omega) cD,dM]
    have O0:k=0->R 51 [xc,I f.at_, .slice cD.next 0 1 1 0] (St.new cD (.cells (aQ c) 109 false)) fun mj fm=>Lim.fst 1 1 (.ptr s8.next 0) mj fm fun Ag=>Za [.ptr τ 0,x, .ptr s8.next 0] Ag:=by
     intro JC;have kA:Kp [] cD (St.new cD (.cells (aQ c) 109 false)):=(Kp.refl [] cD).new _;have gA:(St.new cD (.cells (aQ c) 109 false)).mem.get cD.next=some (.cells (aQ c) 109 false):=aq _ _;have nA:(St.new cD (.cells (aQ c) 109 false)).next=cD.next+1:=rfl;generalize St.new cD (.cells (aQ c) 109 false)=sA at*;have oA:=V9.keep kA fun b hb=>⟨by have:=oT b hb;omega,by simp⟩;refine(zg oA (br _) (by omega) (fun b hb=>by have:=oT b hb;omega) gA (fun hh=>by have:=oT _ hh;omega) rfl (dK _) (fk _) wz).mono ?_;rintro mj fm ⟨F2,o2,KT,Yr⟩;have n21:=KT.next;have OG:s8.next∉F1:=fun hh=>by have:=oT _ hh;omega
     have g21:=((KT.keep s8.next (by omega) OG).trans (kA.keep s8.next (by omega) (by simp))).trans GU;obtain⟨oe1,oe2⟩:=o2.cq;have jR:bt [.bool true,xc,vk] 1 [mj]=[.bool true,mj,vk]:=rfl;rw[Lim.fst,ah,af,aH,g21,aS,oe2,aAT,jR];refine⟨⟨rfl,by simp[oe1],by simp⟩, ?_⟩
     have qF:∀b∈F2,s8.next<b/\b<fm.next:=fun b hb=>by
      obtain⟨p1,p2⟩:=Yr b hb;refine⟨?_,p2⟩;rcases p1 with h|h
      ·have:=(oT b h).1;omega
      ·omega
     have zG:(bj f.n.cells).take (f.at_*4)++(aQ c++(bj f.n.cells).drop (f.at_*4))=bj (cR (f.n.cells.take f.at_++([c]++f.n.cells.drop (f.at_+k)))).cells:=by
      rw[jg _ _ wz,jh _ _ wz,JC];show _=bj (f.n.cells.take f.at_++c::f.n.cells.drop f.at_);rw[gj]
      congr 1
     rw[zG]at o2;have o22:Own (St.set fm s8.next (.cells [.bool true,mj,vk] 105 false)) mj 4 109 (bj (cR (f.n.cells.take f.at_++([c]++f.n.cells.drop (f.at_+k)))).cells) F2:=o2.mono fun b hb=>by have:=qF b hb;rw[ak _ _ _ _ (by omega)]
     have CY:Kp [] s7 (St.set fm s8.next (.cells [.bool true,mj,vk] 105 false)):=((wv.trans kA (by simp)).trans KT fun q hq=> .inr (by have:=oT q hq;omega)).set _ (.inr (by omega)) (by omega);have abj:Kp (s8.next::F1) cD (St.set fm s8.next (.cells [.bool true,mj,vk] 105 false)):=((kA.mono (by simp)).trans KT fun q hq=> .inl (by simp[hq])).set _ (.inl (by simp)) (by omega);have Ti:(St.set fm s8.next (.cells [.bool true,mj,vk] 105 false)).mem.get s8.next=some (.cells [.bool true,mj,vk] 105 false):=ao _ _ _;have n22:(St.set fm s8.next (.cells [.bool true,mj,vk] 105 false)).next=fm.next:=rfl;generalize St.set fm s8.next (.cells [.bool true,mj,vk] 105 false)=Ag at*;have VH:Sl Ag π.W vk 1 (bU []):=by rw[<-vz];exact c2.mono (CY.mono (by simp))
     exact OZ _ _ ⟨mj,vk,rfl,K7.trans CY (by simp),t7.still CY,Nd.mono (CY.mono (by simp)),Ti,mj,vk,rfl,o22.sl fun b hb=>⟨rH b (by have:=qF b hb;omega),by have:=qF b hb;omega⟩,VH⟩
    by_cases hlt:f.at_<f.n.cells.length
    ·rw[aBc hlt];obtain⟨b,p,l,t,g,q1,q2,q3,q4,q5⟩:=Nj.cellAt (by omega) (eV _) (i:=f.at_) (by simpa using hlt);have q6:=q5 0 (.str f.n.cells[f.at_].key) (by simp[aQ]);rw[aBJ]at q6;simp only[aG,aBr,bh,af,iU,gM,ah,az,GU,Pu,ar,aAT,aBJ,Nat.reduceAdd,aAS,aAQ,au,q1,q2,q6,eT,ph,aF,ag]
     by_cases hk:f.n.cells[f.at_].key=key
     ·rw[aBc hk,aBb rfl,aO (n:=4) Ip rfl,af]
      have oV:k=1:=by
       rcases jx.found with⟨h,_⟩|⟨_,_,h⟩
       ·exact h
       ·exact absurd hk (h _ (aAV hlt))
      obtain⟨bc,rfl,xG,Yi⟩:=kF V9 (by omega) (br _) (by omega);have hbc:=oT bc (by simp[xG])
      have UM:cU 4 (.slice bc 0 f.n.cells.length f.n.cells.length 4) (I f.at_) cD= .ok (.ptr bc (f.at_*4)) cD:=by
       have:=gu (size:=4) (off:=0) (cap:=f.n.cells.length) (grow:=4) hlt (.inr (aAU _)) cD (b:=bc)
       rwa [aAT]at this
      have OK:bt (bj f.n.cells) (f.at_*4) (aQ c)=bj (cR (f.n.cells.take f.at_++([c]++f.n.cells.drop (f.at_+k)))).cells:=by
       unfold bj;rw[sJ (eV _) _ (by simpa using hlt) _ rfl,oV];unfold cR;rw[aCJ,aBb (by simpa using hlt)];simp[aCE,aCt]
      unfold Db;rw[UM,af,aH,Yi,aS,aU,OK];refine⟨⟨rfl,rfl,by rw[br];omega⟩, ?_⟩;have CZ:Kp [] s7 (St.set cD bc (.cells (bj (cR (f.n.cells.take f.at_++([c]++f.n.cells.drop (f.at_+k)))).cells) 109 true)):=wv.set _ (.inr (by omega)) (by omega);have Yh:(St.set cD bc (.cells (bj (cR (f.n.cells.take f.at_++([c]++f.n.cells.drop (f.at_+k)))).cells) 109 true)).mem.get bc=some (.cells (bj (cR (f.n.cells.take f.at_++([c]++f.n.cells.drop (f.at_+k)))).cells) 109 true):=ao _ _ _;have Lq:(St.set cD bc (.cells (bj (cR (f.n.cells.take f.at_++([c]++f.n.cells.drop (f.at_+k)))).cells) 109 true)).mem.get s8.next=_:=(ak _ _ _ _ (by omega)).trans GU;have n17:(St.set cD bc (.cells (bj (cR (f.n.cells.take f.at_++([c]++f.n.cells.drop (f.at_+k)))).cells) 109 true)).next=cD.next:=rfl;generalize St.set cD bc (.cells (bj (cR (f.n.cells.take f.at_++([c]++f.n.cells.drop (f.at_+k)))).cells) 109 true)=kx at*;have PQ:(cR (f.n.cells.take f.at_++([c]++f.n.cells.drop (f.at_+k)))).cells.length=f.n.cells.length:=by unfold cR;simp;omega
      have VI:Sl kx π.W vk 1 (bU []):=by rw[<-vz];exact c2.mono (CZ.mono (by simp))
      exact OZ _ _ ⟨_,vk,rfl,K7.trans CZ (by simp),t7.still CZ,Nd.mono (CZ.mono (by simp)),Lq,_,vk,rfl, .inr ⟨bc,0,_,_,4,rfl,by rw[br,PQ],⟨aAU _, .inr rfl⟩, .inr ⟨rH _ (by omega),by omega,_,_,_,Yh,by rw[br,PQ];omega,by rw[aBx,aBa (by rw[br,PQ];omega)]⟩⟩,VI⟩
     ·rw[aAW hk,aAZ (by decide),aO (n:=4) Ip rfl,af,rT (k:=4) rfl rfl rfl,aT,aU];refine O0 ?_;rcases jx.found with⟨_,c',mW,O8⟩|⟨h,_⟩
      ·rw[aAV hlt]at mW;cases mW;exact absurd O8 hk
      ·exact h
    ·rw[aAW hlt];simp only[aG,aAR,aBf,aBr,cc,af,iU,gM,aF,ag];rw[aO (n:=4) Ip rfl,af,rT (k:=4) rfl rfl rfl,aT,aU];refine O0 ?_;rcases jx.found with⟨_,c',mW,O8⟩|⟨h,_⟩
     ·obtain⟨h1,_⟩:=aBg.1 mW;exact absurd h1 hlt
     ·exact h
   ·rintro _ kx ⟨VJ,VG,rfl,K17,t17,VM,Lq,HK⟩;simp only[aK,aL];obtain⟨gg,gs⟩:=jx.put oG rG vU;refine fx (n:=cR (f.n.cells.take f.at_++([c]++f.n.cells.drop (f.at_+k)))) Lq ?_;have Ii:=oG.free;refine(To t17 gg gs (by omega) VM HK vu).mono ?_;rintro _ cC ⟨rfl,L7,G',t18,aiu,sG⟩;exact⟨rfl,K17.trans L7 fun q hq=> .inl hq,G',t18,aiu,sG.trans (oG.aE.trans akC)⟩
end
section
variable {τ:Nat} {π:PI} {st st':St} {G:GM}
end
