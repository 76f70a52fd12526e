import Derived.Test.YtomffjeofpafnaaGreatDoorBtC
namespace Lim
open Go
noncomputable section
set_option linter.defProp false
section
variable {c:dh}{v:List UInt8}{pc:List Nat}
structure rB (G G1:GM)(key:cn)(f:cK)(rest:List cK)(L:List bq)(k:Nat):Prop where
 ex:∃lo hi Ll Lr ps Lt pt Ld pd xi po Bp,oE G key f rest L lo hi Ll Lr ps Lt pt Ld pd/\ff G (f.n.cells.drop (f.at_+k)) xi Bp/\pd=po++Bp/\(∀x∈xi,eQ key x.1)/\Yf G po/\G1=iW G po/\((k=0/\Ld=xi)\/∃w,Ld=(key,w)::xi)
 found:(k=1/\∃c,f.n.cells[f.at_]?=some c/\c.key=key)\/(k=0/\G1=G/\∀c,f.n.cells[f.at_]?=some c->c.key≠key)
section
variable {G G1 G2:GM} {key:cn} {f:cK} {rest:List cK} {L:List bq} {k:Nat} {lo:cn} {hi:Option cn} {Ll Lr:List bq} {ps:List Nat} {Lt:List bq} {pt:List Nat} {Ld:List bq} {pd:List Nat}
def oE.QL (h:oE G key f rest L lo hi Ll Lr ps Lt pt Ld pd)(hG:uY G)(hc:f.n.cells[f.at_]?=some c)(hk:c.key=key):∃w po,Dl G c w po/\po.Nodup/\rB G (iW G po) key f rest L 1/\(iW G po).cF=G.cF+po.length/\fE L key=some w:=by
 obtain⟨w,po,xi,Bp,a,b,rfl,rfl,e,hg⟩:=h.found hc hk;have ja:=h.nd
 have Xk:po.Nodup:=by
  simp only[aFd,aFM]at ja;exact ja.2.1.2.1.1
 have hD:=X4 hG Xk λp hp=>h.cd.aH p (by simp[hp]);exact⟨w,po,a,Xk,⟨⟨lo,hi,Ll,Lr,ps,Lt,pt,_,_,xi,po,Bp,h,b,rfl,e,hD,rfl,.inr ⟨w,rfl⟩⟩,.inl ⟨rfl,c,hc,hk⟩⟩,hD.free,hg⟩
def oE.aeB (h:oE G key f rest L lo hi Ll Lr ps Lt pt Ld pd)(hG:uY G)(hn:∀c,f.n.cells[f.at_]?=some c->c.key≠key):rB G G key f rest L 0:=
 ⟨⟨lo,hi,Ll,Lr,ps,Lt,pt,Ld,pd,Ld,[],pd,h,h.cd,rfl,(h.GN hn).1,X4 hG uG uG,rfl,.inl ⟨rfl,rfl⟩⟩,.inr ⟨rfl,rfl,hn⟩⟩
def Ao {l1 l2:List dh}{cm:List dh}{n:bp}{i k:Nat}(hn:n.ok)(hs:n.size<=512)(fL:n.leaf=true)(hcm:∀c∈cm,c.ok true)(h1:cm.length<=1):(dg (n.cells.take i++(cm++n.cells.drop (i+k)))).size<=640:=by
 rw[ck,fL,aEW rfl]at hs;have h2:=iC true n.cells i;have h3:=iC true (n.cells.drop i) k;rw[aHn]at h3
 have h4:(cT true cm).length<=115:=by
  cases cm with
  |nil=>simp[cT]
  |cons c cm=>cases cm with
   |nil=>
    have:=(iD (hcm c uG)).2.1;rw[fC];simpa[cT]using this
   |cons d cm=>simp at h1
 have h5:=eC true n.cells
 have h6:(dg (n.cells.take i++(cm++n.cells.drop (i+k)))).cells.length<=600:=by
  unfold dg;simp;omega
 have h7:=qF (n:=(dg (n.cells.take i++(cm++n.cells.drop (i+k)))).cells.length) qE;rw[ck];unfold dg at h7⊢;simp only[aFm,eE,aEU]at h7⊢;omega
def rB.put (h:rB G G1 key f rest L k)(hl:Wf G1 G2 c v pc)(hk:c.key=key)(hc:c.ok true):
 za G2 0 f.page rest (dg (f.n.cells.take f.at_++([c]++f.n.cells.drop (f.at_+k)))) (mR L key v)/\(dg (f.n.cells.take f.at_++([c]++f.n.cells.drop (f.at_+k)))).size<=640:=by
 obtain⟨⟨lo,hi,Ll,Lr,ps,Lt,pt,Ld,pd,xi,po,Bp,hA,TE,Xl,Br,hD,rfl,hLd⟩,_⟩:=h
 have e:mR L key v=Ll++((Lt++([(key,v)]++xi))++Lr):=by
  have hA1:∀x∈Ll++Lt,eQ x.1 key:=λx hx=>by
   rcases aEY.1 hx with hx|hx
   .exact hA.kl x hx
   .exact hA.kt x hx
  have hB1:∀x∈xi++Lr,eQ key x.1:=λx hx=>by
   rcases aEY.1 hx with hx|hx
   .exact Br x hx
   .exact hA.kr x hx
  rcases hLd with⟨_,rfl⟩|⟨w,rfl⟩
  .have e:L=(Ll++Lt)++(Ld++Lr):=by rw[<-hA.total];simp
   rw[e,PZ hA1 hB1];simp
  .have e:L=(Ll++Lt)++(key,w)::(xi++Lr):=by rw[<-hA.total];simp
   rw[e,PY hA1 hB1];simp
 rw[e];refine⟨CH (pm:=pc) (po:=po) hA hl.ok (hl.root.trans hD.root) TE Xl (λqs ZO=>?_) ⟨v,pc,[],[],hl.val,⟨rfl,rfl⟩,by rw[hk],uG⟩ (by simp[hk,hc]) uG hl.nd (λx hx hu=>hl.new x hx ((hD.bW x).2 hu)) Br,Ao (l1:=[]) (l2:=[]) hA.node.ok hA.node.size hA.leaf (by simp[hc]) uG⟩;have k1:Kept G (iW G po) qs:=λq hq=>⟨λhu=>(hD.bW q).2 (ZO q hq),hD.cont q⟩;exact k1.trans (hl.kept qs λx hx=>(hD.bW x).2 (ZO x hx))
def rB.del (h:rB G G1 key f rest L 1):za G1 0 f.page rest (dg (f.n.cells.take f.at_++f.n.cells.drop (f.at_+1))) (rp L key)/\(dg (f.n.cells.take f.at_++f.n.cells.drop (f.at_+1))).size<=640:=by
 obtain⟨⟨lo,hi,Ll,Lr,ps,Lt,pt,Ld,pd,xi,po,Bp,hA,TE,Xl,Br,hD,rfl,hLd⟩,_⟩:=h
 have e:rp L key=Ll++((Lt++([]++xi))++Lr):=by
  have hA1:∀x∈Ll++Lt,eQ x.1 key:=λx hx=>by
   rcases aEY.1 hx with hx|hx
   .exact hA.kl x hx
   .exact hA.kt x hx
  have hB1:∀x∈xi++Lr,eQ key x.1:=λx hx=>by
   rcases aEY.1 hx with hx|hx
   .exact Br x hx
   .exact hA.kr x hx
  rcases hLd with⟨h,_⟩|⟨w,rfl⟩
  .cases h
  .have e:L=(Ll++Lt)++(key,w)::(xi++Lr):=by rw[<-hA.total];simp
   rw[e,Ss hA1 hB1];simp
 rw[e];have hl:=CH (cm:=[]) (Lm:=[]) (pm:=[]) (po:=po) hA hD.ok hD.root TE Xl (λqs ZO q hq=>⟨λhu=>(hD.bW q).2 (ZO q hq),hD.cont q⟩) ⟨rfl,rfl⟩ uG uG uG uG Br;rw[aFt]at hl;have hs:=Ao (l1:=[]) (l2:=[]) (cm:=[]) (i:=f.at_) (k:=1) hA.node.ok hA.node.size hA.leaf uG uG;rw[aFt]at hs;exact⟨hl,hs⟩
def AW {r:Nat}(hl:Wf G G1 c v pc)(hc:c.ok true)(yC:Ij G1 (dg [c]) G2 r):fA (G2.gM r) (mR [] c.key v):=by
 have hc1:ff G1 [c] [(c.key,v)] pc:=⟨v,pc,[],[],hl.val,⟨rfl,rfl⟩,rfl,uG⟩;have hr:r∉pc:=λhh=>yC.not (hc1.aH r hh);refine⟨yC.ok.gM _,.inr ⟨0,r::pc,aFd.2 ⟨hr,hl.nd⟩,dg [c],pc,⟨yC.is.bW,yC.is.cont,yC.is.ok,yC.is.size,yC.is.full⟩,⟨rfl,aer,?_,λd hd=>⟨?_,aer⟩⟩,rfl⟩⟩
 .exact hc1.kept (G':=G2.gM r) (yC.kept pc hr)
 .exact jK _
def GJ (hc:c.ok true):(dg [c]).ok/\(dg [c]).size<=512:=by
 refine⟨⟨λd hd=>by simp[dg]at hd;subst hd;exact hc,by unfold iS dg;simp,rfl,by simp[dg]⟩,?_⟩;have:=(iD hc).2.1;have h2:(uv ([c]:List dh).length).length=1:=eM uG;have h3:cT true [c]=iq true c:=by simp[cT]
 rw[ck];unfold dg;simp only[h2,h3,aFm];omega
end
end
set_option maxRecDepth 100000
section
variable {τ:Nat} {π:PI} {st st':St} {G:GM}
def EP (h:Tg τ π st G)(p:Nat)(hp:p<=1000):R 43 [.ptr τ 0,I p] st λv st'=>v=.bool (decide (G.cF<24+p))/\st'=st:=by
 refine bP ?_;rw[w43];refine h.get' ?_;refine(P8 h.pg).same ?_
 have e:ai .add none true (.int .i64 24) (I p) st=.ok (I ((24+p:Nat):Int)) st:=by
  have:ai .add none true (I ((24:Nat):Int)) (I p) st=.ok (I ((24+p:Nat):Int)) st:=Oh
  exact this
 rw[e,af,dC,af];exact⟨rfl,rfl⟩
def wG {G:GM}{key:cn}{f:cK}{rest:List cK}{L:List bq}(hp:mm G key f rest L)(hG:uY G):(∃c,f.n.cells[f.at_]?=some c/\c.key=key)\/rB G G key f rest L 0:=by
 obtain⟨lo,hi,Ll,Lr,ps,Lt,pt,Ld,pd,hA⟩:=hp.Ap
 by_cases h:∃c,f.n.cells[f.at_]?=some c/\c.key=key
 .exact .inl h
 .exact .inr (hA.aeB hG λc hc hk=>h ⟨c,hc,hk⟩)
def abv (τ:Nat)(π:PI)(G:GM)(key v:List UInt8)(L:List bq)(st:St)(vs:List CV)(s:St):Prop:=
 ∃x G1,vs=[.ptr τ 0,.str key,.str v,x]/\Kp π.W st s/\Tg τ π s G1/\uY G1/\G.cF<=G1.cF/\G1.aH=G.aH/\
  ((G1=G/\G.root=0/\x=.ae)\/∃f rest k,mm G key f rest L/\rB G G1 key f rest L k/\rest.length<=16/\eu s π.W x (rest.reverse++[f]))
def Bg (τ:Nat)(π:PI)(G:GM)(key v:List UInt8)(L:List bq)(st:St)(y:CV)(st':St):Prop:=
 if 48<key.length\/8192<v.length then y=I 1/\Kp [] st st' else if G.cF<24+cq v.length then y=I 3/\Kp [] st st' else Dm τ π G (mR L key v) st y st'
def Ue (h:Tg τ π st G){L:List bq}(ht:fA G L)(key v:List UInt8):R 11 [.ptr τ 0,.str key,.str v] st (Bg τ π G key v L st):=by
 refine bP ?_;rw[w11];have eU:∀b,st.nx<=b->b∉π.all/\b≠τ:=λb hb=>⟨λhh=>Ym,λe=>Wr⟩;have mV:=h.Oc;have sV:∀q,st.nx<=q->q∉π.W:=λq hq hh=>aak
 have e0:ai .gtr none true (I key.length) (.int .i64 48) st=.ok (.bool (decide (48<key.length))) st:=zz
 have e1:ai .gtr none true (I v.length) (.int .i64 8192) st=.ok (.bool (decide (8192<v.length))) st:=zz
 have Si:∀K:CV->Prop,K (.bool (decide (48<key.length\/8192<v.length)))->us (aZ (ak false (.bool (decide (48<key.length)))) st (.ok (.str v) st)) (λx4=>us (aZ (ak false (.bool (decide (48<key.length)))) st (bo .str x4 st)) λx5=>us (aZ (ak false (.bool (decide (48<key.length)))) st (ai .gtr none true x5 (.int .i64 8192) st)) λx6=>us (aX (.bool (decide (48<key.length))) (.bool true) x6 st) K):=λK hK=>by
  by_cases LS:48<key.length
  .rw[aEV (.inl LS)]at hK;simp only[aEV LS,aG,aEM,aFa,aFh,bS,af,aF,aFm];exact hK
  .simp only[aEO LS,aG,aEM,aFa,aFf,bh,af,aF,fg,e1]
   simpa[LS]using hK
 rw[cD,af,ag,aET u7,fg,af,e0,af];refine Si _ ?_;rw[ag]
 by_cases ql:48<key.length\/8192<v.length
 .rw[aEV ql,aEW rfl];unfold Bg;rw[aEW ql];exact⟨rfl,Kp.refl _ _⟩
 have Nq:key.length<=48:=qE
 have hv8:v.length<=8192:=qE
 rw[aEO ql,aET u7,fg,af];refine(zk (n:=v.length) qE).same ?_;have hpN:cq v.length<=1000:=acU
 refine(EP h _ hpN).same ?_;rw[ag]
 by_cases jh:G.cF<24+cq v.length
 .rw[aEV jh,aEW rfl];unfold Bg;rw[aET ql,aEW jh];exact⟨rfl,Kp.refl _ _⟩
 rw[aEO jh,aET u7];unfold Bg;simp only[aET ql,aET jh];refine(zj h ht key).mono ?_;rintro _ s3 ⟨k3,x,rfl,hx⟩;have t3:=h.still k3;have e2:∀s,ai .neq (some .int) true (I 0) (.int .i64 0) s=.ok (.bool false) s:=λs=>rfl;rw[aE,af,aN,aE,af,e2,af,ag,aET u7];refine jO (abv τ π G key v L st) ?_ ?_
 .intro nz yT;rcases hx with⟨rM,rfl⟩|⟨f,rest,hp,vO,hst⟩
  .have e3:ai .gtr none true (.int .i64 0) (.int .i64 0) s3=.ok (.bool false) s3:=rfl;rw[pY,af,e3,af,ag,aET u7];exact yT _ _ ⟨_,G,rfl,k3.mono uG,t3,ht.ok,aEQ _,rfl,.inl ⟨rfl,rM,rfl⟩⟩
  .obtain⟨oO,uu,fL,lL,yU⟩:=hp.size;have JL:=hst π.W mV;have uT:(rest.reverse++[f]).length=rest.length+1:=by simp
   have hlen:=JL.len s3;rw[uT]at hlen;have e3:ai .gtr none true (I ((rest.length+1:Nat):Int)) (.int .i64 0) s3=.ok (.bool true) s3:=acF
   have e4:=vd (rest.length+1) qE qE s3 none;rw[aFY]at e4;obtain⟨vc,vk,c1,c2,gG⟩:=JL.row (i:=rest.length) uG;have hf:(rest.reverse++[f])[rest.length]'(by simp)=f:=uG
   rw[hf]at c1 c2 gG;rw[hlen,af,e3,af,ag,aEW rfl,af,e4,af];refine gG _ ?_;refine kJ c1.bE.2.1 c2.bE.2.1 ?_;have Tp:Kp [] s3 (St.new s3 (.cells [I f.page,I f.at_,.bool f.n.leaf,vc,vk] 107 false)):=(Kp.refl [] s3).new _;have ND:(St.new s3 (.cells [I f.page,I f.at_,.bool f.n.leaf,vc,vk] 107 false)).m.g s3.nx=some (.cells [I f.page,I f.at_,.bool f.n.leaf,vc,vk] 107 false):=ao _ _;generalize St.new s3 (.cells [I f.page,I f.at_,.bool f.n.leaf,vc,vk] 107 false)=iT at*;have t24:=t3.still Tp;have c24:=c1.mono (Tp.mono uG);have K24:=k3.trans Tp uG;have Mz:=JL.mono (Tp.mono uG);simp only[fl,ah,af,aB,ND,aq,aER,Nat.reduceAdd,aEN,aEL,ay,c24.len f.n.cells.length (bB _) qE iT,dC]
   by_cases hlt:f.at_<f.n.cells.length
   .rw[aEV hlt];obtain⟨b,p,l,t,g,q1,q2,q3,q4,q5⟩:=c24.cellAt (L:=f.n.cells.map aU) qE (fp _) (i:=f.at_) OZ;have q6:=q5 0 (.str f.n.cells[f.at_].key) TT;rw[aFC]at q6;simp only[aG,aFm,bh,af,gQ,hJ,ah,aB,ND,aq,aER,aFC,Nat.reduceAdd,aEN,aEL,ay,q1,q2,q6,eA,lA,aF,ag]
    by_cases hk:f.n.cells[f.at_].key=key
    .rw[aEV hk,aEW rfl];obtain⟨lo,hi,Ll,Lr,ps,Lt,pt,Ld,pd,hA⟩:=hp.Ap;obtain⟨w,po,hv,Xk,jB,wP,_⟩:=hA.QL ht.ok (aES hlt) hk;refine c24.hO (L:=f.n.cells.map aU) qE (fp _) OZ _ ?_;have e:(f.n.cells.map aU)[f.at_]'(by simpa using hlt)=aU f.n.cells[f.at_]:=by simp
     rw[e];have vH:=uu.cell _ (aFj hlt);rw[fL]at vH;refine(CY t24 vH hv Xk).mono ?_;rintro _ jA ⟨rfl,To,t25⟩;rw[e2,af,ag,aET u7];have hD:=jB.ex;obtain⟨_,_,_,_,_,_,_,_,_,_,po',_,_,_,_,_,hD,eG,_⟩:=hD;refine yT _ _ ⟨_,_,rfl,(K24.mono uG).trans To ael,t25,by rw[eG];exact hD.ok,by rw[wP];omega,by rw[eG];exact hD.aH,.inr ⟨f,rest,1,hp,jB,vO,Mz.mono To⟩⟩
    .rw[aEO hk,aET u7];rcases wG hp ht.ok with⟨c,hc,rh⟩|jB
     .rw[aES hlt]at hc;cases hc;exact absurd rh hk
     .exact yT _ _ ⟨_,G,rfl,K24.mono uG,t24,ht.ok,aEQ _,rfl,.inr ⟨f,rest,0,hp,jB,vO,Mz⟩⟩
   .rw[aEO hlt];simp only[aG,aEM,aFa,aFm,bS,af,gQ,hJ,aF,ag];rcases wG hp ht.ok with⟨c,hc,rh⟩|jB
    .obtain⟨h1,_⟩:=aFb.1 hc;exact absurd h1 hlt
    .exact yT _ _ ⟨_,G,rfl,K24.mono uG,t24,ht.ok,aEQ _,rfl,.inr ⟨f,rest,0,hp,jB,vO,Mz⟩⟩
 .rintro _ s4 ⟨x,G1,rfl,K4,t4,UH,aag,anW,CU⟩;simp only[aL,aM];refine(FE t4 Nq hv8 qE).mono ?_;rintro _ s5 ⟨k5,c,G2,pc,rfl,rh,vH,px,t5⟩;have n5:=k5.nx;have n4:=K4.nx;have K5:=K4.trans k5 ael;rw[aE,af,aN,aE,af];refine mH rfl rfl (fx c) ?_;have k7:Kp [] s5 (St.new s5 (.cells (aU c) 109 false)):=(Kp.refl [] s5).new _;have g7:(St.new s5 (.cells (aU c) 109 false)).m.g s5.nx=some (.cells (aU c) 109 false):=ao _ _;have n7:(St.new s5 (.cells (aU c) 109 false)).nx=s5.nx+1:=rfl;generalize St.new s5 (.cells (aU c) 109 false)=s7 at*;have t7:=t5.still k7;have K7:=K5.trans k7 uG;rw[e2,af,ag,aET u7];rcases CU with⟨rfl,rM,rfl⟩|⟨f,rest,k,hp,jB,vO,hst⟩
  .have RM:L=[]:=by
    rcases ht.tree with h|⟨hh,ps,_,hs⟩
    .exact h.2
    .obtain⟨n,q,hn,_⟩:=hs;have:=hn.bW.1;omega
   subst RM;have e3:ai .eql (some .int) true (.int .i64 0) (.int .i64 0) s7=.ok (.bool true) s7:=rfl;rw[pY,af,e3,af,ag,aEW rfl,aK (n:=4) g7 rfl,af,oz (k:=4) rfl rfl rfl,aS,aT];have k8:Kp [] s7 (St.new s7 (.cells (aU c) 109 false)):=(Kp.refl [] s7).new _;have g8:(St.new s7 (.cells (aU c) 109 false)).m.g s7.nx=some (.cells (aU c) 109 false):=ao _ _;have n8:(St.new s7 (.cells (aU c) 109 false)).nx=s7.nx+1:=rfl;generalize St.new s7 (.cells (aU c) 109 false)=s8 at*;have t8:=t7.still k8;have nD:bk [.bool false,.ae,.ae] [(0,1,.bool true),(1,1,.slice s7.nx 0 1 1 0)] s8=.ok (.agg [.bool true,.slice s7.nx 0 1 1 0,.ae]) s8:=rfl;rw[nD,af]
   have GX:IsNode s8 π.W (.agg [.bool true,.slice s7.nx 0 1 1 0,.ae]) (dg [c]):=
    ⟨_,_,rfl,.inr ⟨s7.nx,0,1,1,0,rfl,rfl,⟨aEQ _,.inl rfl⟩,.inr ⟨sV _ qE,qE,_,_,_,g8,TT,by simp[dg,bC,aU]⟩⟩,.inl ⟨rfl,rfl⟩⟩
   have JY:=px.free;obtain⟨l1,l2⟩:=GJ vH;have yC:=Mh px.ok (show 0<G2.cF from qE) l1 l2 (.inl rfl);refine(ze t8 qE GX l1 l2).mono ?_;rintro _ s9 ⟨rfl,k9,t9⟩;rw[aE,af,aN,aE,af,e2,af,ag,aET u7];refine t9.get' ?_;refine(pW t9.pg _ (.inr yC.is.bW)).mono ?_;rintro _ s10 ⟨rfl,qh,YJ⟩;refine⟨rfl,(((K7.trans k8 uG).trans k9 ael).trans qh ael),_,t9.of qh YJ,?_,?_⟩
   .have:=AW px vH yC
    rwa [rh]at this
   .exact yC.aH.trans px.aH
  .obtain⟨oO,uu,fL,lL,yU⟩:=hp.size;have Pu:=hst.mono (k5.trans k7 uG);have uT:(rest.reverse++[f]).length=rest.length+1:=by simp
   have hlen:=Pu.len s7;rw[uT]at hlen;have e3:ai .eql (some .int) true (I ((rest.length+1:Nat):Int)) (.int .i64 0) s7=.ok (.bool false) s7:=Ft
   have e4:=vd (rest.length+1) qE qE s7 none;rw[aFY]at e4;obtain⟨vc,vk,c1,c2,gG⟩:=Pu.row (i:=rest.length) uG;have hf:(rest.reverse++[f])[rest.length]'(by simp)=f:=uG
   rw[hf]at c1 c2 gG
   have wN:f.n.kids=[]:=by
    have:=uu.jw;rw[fL,aEW rfl]at this;exact aFi.1 this
   rw[hlen,af,e3,af,ag,aET u7,af,e4,af];rw[fL]at gG;refine gG _ ?_;refine kJ c1.bE.2.1 c2.bE.2.1 ?_;have k8:Kp [] s7 (St.new s7 (.cells [I f.page,I f.at_,.bool true,vc,vk] 107 false)):=(Kp.refl [] s7).new _;have g8:(St.new s7 (.cells [I f.page,I f.at_,.bool true,vc,vk] 107 false)).m.g s7.nx=some (.cells [I f.page,I f.at_,.bool true,vc,vk] 107 false):=ao _ _;have n8:(St.new s7 (.cells [I f.page,I f.at_,.bool true,vc,vk] 107 false)).nx=s7.nx+1:=rfl;generalize St.new s7 (.cells [I f.page,I f.at_,.bool true,vc,vk] 107 false)=s8 at*;have g78:=(k8.keep s5.nx qE uG).trans g7
   have EH:∀K:CV->Prop,K (.agg [.bool true,vc,vk])->LW 3 2 (.ptr s7.nx 0) s8 K:=λK hK=>by
    unfold LW;rw[ah,af,gF (n:=3) g8 uG,af];exact hK
   refine EH _ ?_;refine qV c1.bE.2.1 c2.bE.2.1 ?_;have k9:Kp [] s8 (St.new s8 (.cells [.bool true,vc,vk] 105 false)):=(Kp.refl [] s8).new _;have g9:(St.new s8 (.cells [.bool true,vc,vk] 105 false)).m.g s8.nx=some (.cells [.bool true,vc,vk] 105 false):=ao _ _;have n9:(St.new s8 (.cells [.bool true,vc,vk] 105 false)).nx=s8.nx+1:=rfl;generalize St.new s8 (.cells [.bool true,vc,vk] 105 false)=s9 at*;have g89:=(k9.keep s7.nx qE uG).trans g8;have g79:=(k9.keep s5.nx qE uG).trans g78;have k79:=k8.trans k9 uG;rw[fl,ah,af,aB,g9,aq];simp only[aER,aEN,aEL,ay];refine(tW ((c1.dW (Y:=[]) uG).mono (k79.mono uG)) (dS _) Yk).mono ?_;rintro xc gY ⟨F1,xJ,o1,Ki,_⟩;have n15:=xJ.nx;have g15:=(xJ.keep s8.nx qE uG).trans g9;have aaR:=(xJ.keep s7.nx qE uG).trans g89;have aaS:=(xJ.keep s5.nx qE uG).trans g79;obtain⟨UJ,Qm⟩:=o1.cE;have qk:bD [.bool true,vc,vk] 1 [xc]=[.bool true,xc,vk]:=rfl;rw[Lim.fst,ah,af,aJ,g15,aW,Qm,aER,qk];refine⟨⟨rfl,by simp[UJ],uG⟩,?_⟩;have xK:Kp [] s7 (St.set gY s8.nx (.cells [.bool true,xc,vk] 105 false)):=(k79.trans xJ uG).set _ (.inr qE) qE;have Iy:(St.set gY s8.nx (.cells [.bool true,xc,vk] 105 false)).m.g s8.nx=some (.cells [.bool true,xc,vk] 105 false):=ar _ _ _;have RY:(St.set gY s8.nx (.cells [.bool true,xc,vk] 105 false)).m.g s7.nx=_:=(al _ _ _ _ qE).trans aaR;have Ke:(St.set gY s8.nx (.cells [.bool true,xc,vk] 105 false)).m.g s5.nx=_:=(al _ _ _ _ qE).trans aaS;have n16:(St.set gY s8.nx (.cells [.bool true,xc,vk] 105 false)).nx=gY.nx:=rfl;have pO:∀b∈F1,s8.nx<b/\b<gY.nx:=λb hb=>acs
   have YQ:Own (St.set gY s8.nx (.cells [.bool true,xc,vk] 105 false)) xc 4 109 (bC f.n.cells) F1:=o1.mono λb hb=>acy
   generalize St.set gY s8.nx (.cells [.bool true,xc,vk] 105 false)=bU at*;have K16:=K7.trans xK uG;have t16:=t7.still xK;have alI:=Pu.mono (xK.mono uG);have als:Sl bU π.W vk 1 (cJ []):=acm
   refine jO (λvs s=>∃Yr Yo,vs=[.ptr τ 0,x,.ptr s8.nx 0]/\Kp π.W st s/\Tg τ π s G2/\eu s π.W x (rest.reverse++[f])/\s.m.g s8.nx=some (.cells [.bool true,Yr,Yo] 105 false)/\IsNode s π.W (.agg [.bool true,Yr,Yo]) (dg (f.n.cells.take f.at_++([c]++f.n.cells.drop (f.at_+k))))) ?_ ?_
   .intro k41 Rn;have Pz:Sl bU [] xc 4 (f.n.cells.map aU).flatten:=YQ.sl λb hb=>⟨uG,Mr⟩;simp only[fl,ah,af,aB,Iy,RY,aq,aER,aEN,aEL,ay,Pz.len f.n.cells.length (bB _) qE bU,dC]
    have Ro:k=0->R 51 [xc,I f.at_,.slice bU.nx 0 1 1 0] (St.new bU (.cells (aU c) 109 false)) λlJ fR=>Lim.fst 1 1 (.ptr s8.nx 0) lJ fR λtF=>k41 [.ptr τ 0,x,.ptr s8.nx 0] tF:=by
     intro LM;have kA:Kp [] bU (St.new bU (.cells (aU c) 109 false)):=(Kp.refl [] bU).new _;have gA:(St.new bU (.cells (aU c) 109 false)).m.g bU.nx=some (.cells (aU c) 109 false):=ao _ _;have nA:(St.new bU (.cells (aU c) 109 false)).nx=bU.nx+1:=rfl;generalize St.new bU (.cells (aU c) 109 false)=sA at*;have oA:=YQ.keep kA λb hb=>⟨Mr,uG⟩;refine(Ay oA (bB _) qE (λb hb=>Mr) gA (λhh=>aap) rfl (dS _) (fx _) yU).mono ?_;rintro lJ fR ⟨F2,o2,Nb,fF2⟩;have n21:=Nb.nx;have QT:s8.nx∉F1:=λhh=>aap
     have g21:=((Nb.keep s8.nx qE QT).trans (kA.keep s8.nx qE uG)).trans Iy;obtain⟨oe1,oe2⟩:=o2.cE;have kx:bD [.bool true,xc,vk] 1 [lJ]=[.bool true,lJ,vk]:=rfl;rw[Lim.fst,ah,af,aJ,g21,aW,oe2,aER,kx];refine⟨⟨rfl,by simp[oe1],uG⟩,?_⟩
     have rI:∀b∈F2,s8.nx<b/\b<fR.nx:=λb hb=>by
      obtain⟨p1,p2⟩:=fF2 b hb;refine⟨?_,p2⟩;rcases p1 with h|h
      .have:=(pO b h).1;omega
      .omega
     have A0:(bC f.n.cells).take (f.at_*4)++(aU c++(bC f.n.cells).drop (f.at_*4))=bC (dg (f.n.cells.take f.at_++([c]++f.n.cells.drop (f.at_+k)))).cells:=by
      rw[jQ _ _ yU,jR _ _ yU,LM];show _=bC (f.n.cells.take f.at_++c::f.n.cells.drop f.at_);rw[gE]
      congr 1
     rw[A0]at o2;have o22:Own (St.set fR s8.nx (.cells [.bool true,lJ,vk] 105 false)) lJ 4 109 (bC (dg (f.n.cells.take f.at_++([c]++f.n.cells.drop (f.at_+k)))).cells) F2:=o2.mono λb hb=>acz
     have Es:Kp [] s7 (St.set fR s8.nx (.cells [.bool true,lJ,vk] 105 false)):=((xK.trans kA uG).trans Nb λq hq=>.inr adW).set _ (.inr qE) qE;have aev:Kp (s8.nx::F1) bU (St.set fR s8.nx (.cells [.bool true,lJ,vk] 105 false)):=((kA.mono uG).trans Nb λq hq=>.inl TN).set _ (.inl uG) qE;have VI:(St.set fR s8.nx (.cells [.bool true,lJ,vk] 105 false)).m.g s8.nx=some (.cells [.bool true,lJ,vk] 105 false):=ar _ _ _;have n22:(St.set fR s8.nx (.cells [.bool true,lJ,vk] 105 false)).nx=fR.nx:=rfl;generalize St.set fR s8.nx (.cells [.bool true,lJ,vk] 105 false)=tF at*;have Yp:Sl tF π.W vk 1 (cJ []):=acn
     exact Rn _ _ ⟨lJ,vk,rfl,K7.trans Es uG,t7.still Es,Pu.mono (Es.mono uG),VI,lJ,vk,rfl,o22.sl λb hb=>⟨sV b Im,Im⟩,Yp⟩
    by_cases hlt:f.at_<f.n.cells.length
    .rw[aEV hlt];obtain⟨b,p,l,t,g,q1,q2,q3,q4,q5⟩:=Pz.cellAt qE (fp _) (i:=f.at_) OZ;have q6:=q5 0 (.str f.n.cells[f.at_].key) TT;rw[aFC]at q6;simp only[aG,aFm,bh,af,gQ,hJ,ah,aB,Iy,RY,aq,aER,aFC,aEN,aEL,ay,q1,q2,q6,eA,lA,aF,ag]
     by_cases hk:f.n.cells[f.at_].key=key
     .rw[aEV hk,aEW rfl,aK (n:=4) Ke rfl,af]
      have pP:k=1:=by
       rcases jB.found with⟨h,_⟩|⟨_,_,h⟩
       .exact h
       .exact absurd hk (h _ (aES hlt))
      obtain⟨bc,rfl,wS,aaO⟩:=kZ YQ qE (bB _) qE;have hbc:=pO bc (by simp[wS])
      have Xx:cc 4 (.slice bc 0 f.n.cells.length f.n.cells.length 4) (I f.at_) bU=.ok (.ptr bc (f.at_*4)) bU:=by
       have:=fO (size:=4) (off:=0) (cap:=f.n.cells.length) (grow:=4) hlt (.inr (aEQ _)) bU (b:=bc)
       rwa [aER]at this
      have QY:bD (bC f.n.cells) (f.at_*4) (aU c)=bC (dg (f.n.cells.take f.at_++([c]++f.n.cells.drop (f.at_+k)))).cells:=by
       unfold bC;rw[tO (fp _) _ OZ _ rfl,pP];unfold dg;rw[aGF,aEW OZ];simp[aGx,aGl]
      unfold Ew;rw[Xx,af,aJ,aaO,aW,aT,QY];refine⟨⟨rfl,rfl,Yk⟩,?_⟩;have Et:Kp [] s7 (St.set bU bc (.cells (bC (dg (f.n.cells.take f.at_++([c]++f.n.cells.drop (f.at_+k)))).cells) 109 true)):=xK.set _ (.inr qE) qE;have aaN:(St.set bU bc (.cells (bC (dg (f.n.cells.take f.at_++([c]++f.n.cells.drop (f.at_+k)))).cells) 109 true)).m.g bc=some (.cells (bC (dg (f.n.cells.take f.at_++([c]++f.n.cells.drop (f.at_+k)))).cells) 109 true):=ar _ _ _;have NF:(St.set bU bc (.cells (bC (dg (f.n.cells.take f.at_++([c]++f.n.cells.drop (f.at_+k)))).cells) 109 true)).m.g s8.nx=_:=(al _ _ _ _ qE).trans Iy;have n17:(St.set bU bc (.cells (bC (dg (f.n.cells.take f.at_++([c]++f.n.cells.drop (f.at_+k)))).cells) 109 true)).nx=bU.nx:=rfl;generalize St.set bU bc (.cells (bC (dg (f.n.cells.take f.at_++([c]++f.n.cells.drop (f.at_+k)))).cells) 109 true)=jd at*;have Sk:(dg (f.n.cells.take f.at_++([c]++f.n.cells.drop (f.at_+k)))).cells.length=f.n.cells.length:=by unfold dg;simp;omega
      have Yq:Sl jd π.W vk 1 (cJ []):=aco
      exact Rn _ _ ⟨_,vk,rfl,K7.trans Et uG,t7.still Et,Pu.mono (Et.mono uG),NF,_,vk,rfl,.inr ⟨bc,0,_,_,4,rfl,by rw[bB,Sk],⟨aEQ _,.inr rfl⟩,.inr ⟨sV _ qE,qE,_,_,_,aaN,abM,abP⟩⟩,Yq⟩
     .rw[aEO hk,aET u7,aK (n:=4) Ke rfl,af,oz (k:=4) rfl rfl rfl,aS,aT];refine Ro ?_;rcases jB.found with⟨_,c',nL,RA⟩|⟨h,_⟩
      .rw[aES hlt]at nL;cases nL;exact absurd RA hk
      .exact h
    .rw[aEO hlt];simp only[aG,aEM,aFa,aFm,bS,af,gQ,hJ,aF,ag];rw[aK (n:=4) Ke rfl,af,oz (k:=4) rfl rfl rfl,aS,aT];refine Ro ?_;rcases jB.found with⟨_,c',nL,RA⟩|⟨h,_⟩
     .obtain⟨h1,_⟩:=aFb.1 nL;exact absurd h1 hlt
     .exact h
   .rintro _ jd ⟨Yr,Yo,rfl,K17,t17,Yy,NF,JB⟩;simp only[aL,aM];obtain⟨gg,gs⟩:=jB.put px rh vH;refine fH (n:=dg (f.n.cells.take f.at_++([c]++f.n.cells.drop (f.at_+k)))) NF ?_;have JY:=px.free;refine(LZ t17 gg gs qE Yy JB vO).mono ?_;rintro _ dp ⟨rfl,Oq,G',t18,alB,oI⟩;exact⟨rfl,K17.trans Oq ael,G',t18,alB,oI.trans (px.aH.trans anW)⟩
end
section
variable {τ:Nat} {π:PI} {st st':St} {G:GM}
def Ku (τ:Nat)(π:PI)(G:GM)(key:List UInt8)(L:List bq)(st:St)(y:CV)(st':St):Prop:=
 if 48<key.length then y=.tuple [.bool false,I 1]/\Kp [] st st' else if G.cF<24 then y=.tuple [.bool false,I 3]/\Kp [] st st' else
  y=.tuple [.bool (fE L key).isSome,I 0]/\Kp π.W st st'/\∃G',Tg τ π st' G'/\fA G' (rp L key)/\G'.aH=G.aH
def Uj (h:Tg τ π st G){L:List bq}(ht:fA G L)(key:cn):R 41 [.ptr τ 0,.str key] st (Ku τ π G key L st):=by
 refine bP ?_;rw[w41];have eU:∀b,st.nx<=b->b∉π.all/\b≠τ:=λb hb=>⟨λhh=>Ym,λe=>Wr⟩;have mV:=h.Oc;have sV:∀q,st.nx<=q->q∉π.W:=λq hq hh=>aak
 have e0:ai .gtr none true (I key.length) (.int .i64 48) st=.ok (.bool (decide (48<key.length))) st:=zz
 rw[cD,af,ag,aET u7,fg,af,e0,af,ag];unfold Ku
 by_cases ql:48<key.length
 .rw[aEV ql,aEW rfl];simp only[aEW ql];exact⟨aer,Kp.refl _ _⟩
 rw[aEO ql,aET u7];have hfk:=EP h 0 qE;refine hfk.same ?_;rw[ag]
 by_cases jh:G.cF<24+0
 .rw[aEV jh,aEW rfl];simp only[aET ql];rw[aEW qE];exact⟨aer,Kp.refl _ _⟩
 rw[aEO jh,aET u7];simp only[aET ql,aET (show¬G.cF<24 by omega)];refine(zj h ht key).mono ?_;rintro _ s2 ⟨k2,x,rfl,hx⟩;have t2:=h.still k2;have e2:∀s,ai .neq (some .int) true (I 0) (.int .i64 0) s=.ok (.bool false) s:=λs=>rfl;rw[aE,af,aN,aE,af,e2,af];simp only[aG,aEM,aFa,aFf,bh,af]
 have Yx:∀s,Kp [] st s->fE L key=none->rp L key=L->(CV.tuple [.bool false,.int .i64 0]=.tuple [.bool (fE L key).isSome,I 0]/\Kp π.W st s/\∃G',Tg τ π s G'/\fA G' (rp L key)/\G'.aH=G.aH):=λs hs h1 h2=>by
  rw[h1,h2];exact⟨rfl,hs.mono uG,G,h.still hs,ht,rfl⟩
 rcases hx with⟨rM,rfl⟩|⟨f,rest,hp,vO,hst⟩
 .have RM:L=[]:=by
   rcases ht.tree with h|⟨hh,ps,_,hs⟩
   .exact h.2
   .obtain⟨n,q,hn,_⟩:=hs;have:=hn.bW.1;omega
  subst RM;have e3:ai .eql (some .int) true (.int .i64 0) (.int .i64 0) s2=.ok (.bool true) s2:=rfl;simp only[pY,af,e3,aF,aEM,aFa,ag,aFm];exact Yx s2 k2 rfl rfl
 .obtain⟨oO,uu,fL,lL,yU⟩:=hp.size;have Zw:=hst π.W mV;have uT:(rest.reverse++[f]).length=rest.length+1:=by simp
  have hlen:=Zw.len s2;rw[uT]at hlen;have e3:ai .eql (some .int) true (I ((rest.length+1:Nat):Int)) (.int .i64 0) s2=.ok (.bool false) s2:=Ft
  have e4:=vd (rest.length+1) qE qE s2 none;rw[aFY]at e4;obtain⟨vc,vk,c1,c2,gG⟩:=Zw.row (i:=rest.length) uG;have hf:(rest.reverse++[f])[rest.length]'(by simp)=f:=uG
  rw[hf]at c1 c2 gG
  have wN:f.n.kids=[]:=by
   have:=uu.jw;rw[fL,aEW rfl]at this;exact aFi.1 this
  simp only[hlen,af,e3,aF,aEM,aFa,ag,e4];rw[fL]at gG;refine gG _ ?_;refine kJ c1.bE.2.1 c2.bE.2.1 ?_;have k4:Kp [] s2 (St.new s2 (.cells [I f.page,I f.at_,.bool true,vc,vk] 107 false)):=(Kp.refl [] s2).new _;have g4:(St.new s2 (.cells [I f.page,I f.at_,.bool true,vc,vk] 107 false)).m.g s2.nx=some (.cells [I f.page,I f.at_,.bool true,vc,vk] 107 false):=ao _ _;have n4:(St.new s2 (.cells [I f.page,I f.at_,.bool true,vc,vk] 107 false)).nx=s2.nx+1:=rfl;generalize St.new s2 (.cells [I f.page,I f.at_,.bool true,vc,vk] 107 false)=s4 at*;have k2n:=k2.nx;have t4:=t2.still k4;have c4:=c1.mono (k4.mono uG);have K4:=k2.trans k4 uG;have st4:=Zw.mono (k4.mono uG);obtain⟨lo,hi,Ll,Lr,ps,Lt,pt,Ld,pd,hA⟩:=hp.Ap;have e5:ai .eql (some .int) false (I f.at_) (I f.n.cells.length) s4=.ok (.bool (decide (f.at_=f.n.cells.length))) s4:=OX
  simp only[fl,ah,af,aB,g4,aq,aER,Nat.reduceAdd,aEN,aEL,ay,c4.len f.n.cells.length (bB _) qE s4,e5]
  by_cases EJ:f.at_=f.n.cells.length
  .obtain⟨_,qy,hde⟩:=hA.GN (λc hc=>by rw[EJ,aFQ (aEQ _)]at hc;cases hc);rw[aEV EJ];simp only[aG,aEM,aFa,aFh,bS,af,gQ,hJ,aF,aFm,ag];exact Yx s4 K4 qy hde
  .have hlt:f.at_<f.n.cells.length:=by omega
   rw[aEO EJ];obtain⟨b,p,l,t,g,q1,q2,q3,q4,q5⟩:=c4.cellAt (L:=f.n.cells.map aU) qE (fp _) (i:=f.at_) OZ;have q6:=q5 0 (.str f.n.cells[f.at_].key) TT;rw[aFC]at q6;simp only[aG,aEM,aFa,aFf,bh,af,gQ,hJ,ah,aB,g4,aq,aER,aFC,Nat.reduceAdd,aEN,aEL,ay,q1,q2,q6,eA,nX,aF,ag]
   by_cases hk:f.n.cells[f.at_].key=key
   .obtain⟨w,po,hv,Xk,jB,wP,uw⟩:=hA.QL ht.ok (aES hlt) hk;rw[aEV hk,aFh,aET u7];refine c4.hO (L:=f.n.cells.map aU) qE (fp _) OZ _ ?_;have e:(f.n.cells.map aU)[f.at_]'(by simpa using hlt)=aU f.n.cells[f.at_]:=by simp
    rw[e];have vH:=uu.cell _ (aFj hlt);rw[fL]at vH;refine(CY t4 vH hv Xk).mono ?_;rintro _ s5 ⟨rfl,k5,t5⟩;have n5:=k5.nx;have g5:=(k5.keep s2.nx qE (sV _ qE)).trans g4;have K5:=(K4.mono uG).trans k5 ael;rw[e2,af,ag,aET u7]
    have EH:∀K:CV->Prop,K (.agg [.bool true,vc,vk])->LW 3 2 (.ptr s2.nx 0) s5 K:=λK hK=>by
     unfold LW;rw[ah,af,gF (n:=3) g5 uG,af];exact hK
    refine EH _ ?_;refine qV c1.bE.2.1 c2.bE.2.1 ?_;have c5:=(c4.mono k5);have d5:=((c2.mono (k4.mono uG)).mono k5);have k7:Kp [] s5 (St.new s5 (.cells [.bool true,vc,vk] 105 false)):=(Kp.refl [] s5).new _;have g7:(St.new s5 (.cells [.bool true,vc,vk] 105 false)).m.g s5.nx=some (.cells [.bool true,vc,vk] 105 false):=ao _ _;have n7:(St.new s5 (.cells [.bool true,vc,vk] 105 false)).nx=s5.nx+1:=rfl;generalize St.new s5 (.cells [.bool true,vc,vk] 105 false)=s7 at*;have g47:=(k7.keep s2.nx qE uG).trans g5;rw[bG,ah,af,aB,g7,aq];simp only[aER,aEN,aEL,ay];refine(tW ((c5.dW (Y:=[]) uG).mono (k7.mono uG)) (dS _) Yk).mono ?_;rintro xc s8 ⟨F1,xJ,o1,Ki,_⟩;have n8:=xJ.nx;have g8:=(xJ.keep s5.nx qE uG).trans g7;have g48:=(xJ.keep s2.nx qE uG).trans g47;have pO:∀b∈F1,s5.nx<b/\b<s8.nx:=λb hb=>acs
    simp only[ah,af,g48,g47,aq,aER,aEN,aEL,ay,gH f.at_ qE,aHa,and_true];refine(HC (n:=f.n.cells.length) o1 (bB _) qE (λb hb=>Mr) (dS _) hlt).mono ?_;rintro mC s9 ⟨o9,k9,n9⟩;have g9:=(k9.keep s5.nx qE (λhh=>aap)).trans g8
    have ec:(bC f.n.cells).take (f.at_*4)++(bC f.n.cells).drop ((f.at_+1)*4)=bC (dg (f.n.cells.take f.at_++f.n.cells.drop (f.at_+1))).cells:=by
     rw[jQ _ _ qE,jR _ _ qE,<-gE];rfl
    rw[ec]at o9
    have adE:=o9 (π.W++[s5.nx]) λb hb hh=>by
     have:=pO b hb;simp at hh;rcases hh with hh|hh
     .exact sV b qE hh
     .omega
    have vk9:Sl s9 (π.W++[s5.nx]) vk 1 (cJ []):=by
     have e:cJ []=cJ f.n.kids:=by rw[wN]
     rw[e]
     have d7:=d5.dW (Y:=π.W++(s5.nx::F1)) (by
      intro b hb;simp at hb;rcases hb with h|h|h
      .exact .inl h
      .right;omega
      .right;have:=pO b h;omega)
     have ur:∀b∈π.W++[s5.nx],b∈π.W++(s5.nx::F1):=λb hb=>by
      rcases aEY.1 hb with h|h
      .exact aGO _ h
      .have h2:=aGd.1 h;rw[h2];exact List.mem_append_right _ aFT
     have d9:=((d7.mono (k7.mono uG)).mono (xJ.mono uG)).mono (k9.mono (G:=π.W++(s5.nx::F1)) (by intro b hb;left;simp[hb]));exact d9.dW λb hb=>.inl (ur b hb)
    obtain⟨z1,z2,z3⟩:=adE.bE;have qk:bD [.bool true,vc,vk] 1 [mC]=[.bool true,mC,vk]:=rfl;rw[aJ,g9,aW,z3,qk];refine⟨⟨rfl,by simp[z2],uG⟩,?_⟩;have Y6:Kp [s5.nx] s9 (St.set s9 s5.nx (.cells [.bool true,mC,vk] 105 false)):=(Kp.refl _ s9).set _ (.inl uG) qE;have LV:(St.set s9 s5.nx (.cells [.bool true,mC,vk] 105 false)).m.g s5.nx=some (.cells [.bool (dg (f.n.cells.take f.at_++f.n.cells.drop (f.at_+1))).leaf,mC,vk] 105 false):=ar _ _ _;generalize St.set s9 s5.nx (.cells [.bool true,mC,vk] 105 false)=s10 at*;have Y9:=((k7.trans xJ uG).trans k9 λq hq=>.inr adW).trans Y6 (by intro q hq;right;simp at hq;omega)
    have YT:IsNode s10 π.W (.agg [.bool (dg (f.n.cells.take f.at_++f.n.cells.drop (f.at_+1))).leaf,mC,vk]) (dg (f.n.cells.take f.at_++f.n.cells.drop (f.at_+1))):=
     ⟨mC,vk,rfl,(adE.mono (Y6.mono (by intro q hq;left;exact List.mem_append_right _ hq))).dW (λq hq=>.inl (aGO _ hq)),(vk9.mono (Y6.mono (by intro q hq;left;exact List.mem_append_right _ hq))).dW (λq hq=>.inl (aGO _ hq))⟩
    have t10:=t5.still Y9;have I3:=(st4.mono k5).mono (Y9.mono uG);refine fH LV ?_;obtain⟨gg,gs⟩:=jB.del;refine(LZ t10 gg gs qE I3 YT vO).mono ?_;rintro _ dq ⟨rfl,qx,G',t11,alC,oI⟩;rw[e2,af,ag,aET u7,uw];have hD:=jB.ex;obtain⟨_,_,_,_,_,_,_,_,_,_,po',_,_,_,_,_,hD,eG,_⟩:=hD;exact⟨rfl,(K5.trans Y9 uG).trans qx ael,G',t11,alC,oI.trans (by rw[eG];exact hD.aH)⟩
   .obtain⟨_,qy,hde⟩:=hA.GN (λc hc=>by rw[aES hlt]at hc;cases hc;exact hk);rw[aEO hk,aFf,aEW rfl];exact Yx s4 K4 qy hde
end
