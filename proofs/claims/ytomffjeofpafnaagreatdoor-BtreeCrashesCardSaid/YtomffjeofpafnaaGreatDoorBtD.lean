import Derived.Test.YtomffjeofpafnaaGreatDoorBtC
namespace Lim
open Go
noncomputable section
set_option linter.defProp false
section
variable {c:dh}{v:List UInt8}{pc:List Nat}
structure sK (G G1:GM)(key:cn)(f:cV)(rest:List cV)(L:List bt)(k:Nat):Prop where
 ex:∃lo hi Ll Lr ps Lt pt Ld pd wz po AK,om G key f rest L lo hi Ll Lr ps Lt pt Ld pd/\eU G (f.n.cells.drop (f.at_+k)) wz AK/\pd=po++AK/\(∀x∈wz,eD key x.1)/\Wm G po/\G1=iI G po/\((k=0/\Ld=wz)\/∃w,Ld=(key,w)::wz)
 found:(k=1/\∃c,f.n.cells[f.at_]?=some c/\c.key=key)\/(k=0/\G1=G/\∀c,f.n.cells[f.at_]?=some c->c.key≠key)
section
variable {G G1 G2:GM} {key:cn} {f:cV} {rest:List cV} {L:List bt} {k:Nat} {lo:cn} {hi:Option cn} {Ll Lr:List bt} {ps:List Nat} {Lt:List bt} {pt:List Nat} {Ld:List bt} {pd:List Nat}
def om.Vc (h:om G key f rest L lo hi Ll Lr ps Lt pt Ld pd)(hG:uX G)(hc:f.n.cells[f.at_]?=some c)(hk:c.key=key):∃w po,Cw G c w po/\po.Nodup/\sK G (iI G po) key f rest L 1/\(iI G po).cP=G.cP+po.length/\lA L key=some w:=by
 obtain⟨w,po,wz,AK,a,b,rfl,rfl,e,hg⟩:=h.found hc hk;have je:=h.nd
 have Yv:po.Nodup:=by
  simp only[aDG,aEn]at je;exact je.2.1.2.1.1
 have hD:=Wc hG Yv λp hp=>h.cd.aE p (by simp[hp]);exact⟨w,po,a,Yv,⟨⟨lo,hi,Ll,Lr,ps,Lt,pt,_,_,wz,po,AK,h,b,rfl,e,hD,rfl,.inr ⟨w,rfl⟩⟩,.inl ⟨rfl,c,hc,hk⟩⟩,hD.free,hg⟩
def om.adf (h:om G key f rest L lo hi Ll Lr ps Lt pt Ld pd)(hG:uX G)(hn:∀c,f.n.cells[f.at_]?=some c->c.key≠key):sK G G key f rest L 0:=
 ⟨⟨lo,hi,Ll,Lr,ps,Lt,pt,Ld,pd,Ld,[],pd,h,h.cd,rfl,(h.FW hn).1,Wc hG rq rq,rfl,.inl ⟨rfl,rfl⟩⟩,.inr ⟨rfl,rfl,hn⟩⟩
def zG {l1 l2:List dh}{cm:List dh}{n:bg}{i k:Nat}(hn:n.ok)(hs:n.size<=512)(fY:n.leaf=true)(TW:∀c∈cm,c.ok true)(h1:cm.length<=1):(ft (n.cells.take i++(cm++n.cells.drop (i+k)))).size<=640:=by
 rw[cc,fY,aDy rfl]at hs;have h2:=ij true n.cells i;have h3:=ij true (n.cells.drop i) k;rw[aFR]at h3
 have h4:(cR true cm).length<=115:=by
  cases cm with
  |nil=>simp[cR]
  |cons c cm=>cases cm with
   |nil=>
    have:=(iU (TW c rq)).2.1;rw[fx];simpa[cR]using this
   |cons d cm=>simp at h1
 have h5:=eT true n.cells
 have h6:(ft (n.cells.take i++(cm++n.cells.drop (i+k)))).cells.length<=600:=by
  unfold ft;simp;omega
 have h7:=pY (n:=(ft (n.cells.take i++(cm++n.cells.drop (i+k)))).cells.length) pX;rw[cc];unfold ft at h7⊢;simp only[aDQ,ep,aDw]at h7⊢;omega
def sK.put (h:sK G G1 key f rest L k)(hl:aaa G1 G2 c v pc)(hk:c.key=key)(hc:c.ok true):
 Bo G2 0 f.page rest (ft (f.n.cells.take f.at_++([c]++f.n.cells.drop (f.at_+k)))) (vD L key v)/\(ft (f.n.cells.take f.at_++([c]++f.n.cells.drop (f.at_+k)))).size<=640:=by
 obtain⟨⟨lo,hi,Ll,Lr,ps,Lt,pt,Ld,pd,wz,po,AK,hA,RK,Vp,Cg,hD,rfl,hLd⟩,_⟩:=h
 have e:vD L key v=Ll++((Lt++([(key,v)]++wz))++Lr):=by
  have hA1:∀x∈Ll++Lt,eD x.1 key:=λx hx=>by
   rcases aDB.1 hx with hx|hx
   .exact hA.kl x hx
   .exact hA.kt x hx
  have hB1:∀x∈wz++Lr,eD key x.1:=λx hx=>by
   rcases aDB.1 hx with hx|hx
   .exact Cg x hx
   .exact hA.kr x hx
  rcases hLd with⟨_,rfl⟩|⟨w,rfl⟩
  .have e:L=(Ll++Lt)++(Ld++Lr):=by rw[<-hA.total];simp
   rw[e,OA hA1 hB1];simp
  .have e:L=(Ll++Lt)++(key,w)::(wz++Lr):=by rw[<-hA.total];simp
   rw[e,Oz hA1 hB1];simp
 rw[e];refine⟨BS (pm:=pc) (po:=po) hA hl.ok (hl.root.trans hD.root) RK Vp (λqs Yu=>?_) ⟨v,pc,[],[],hl.val,⟨rfl,rfl⟩,by rw[hk],rq⟩ (by simp[hk,hc]) rq hl.nd (λx hx hu=>hl.new x hx ((hD.bS x).2 hu)) Cg,zG (l1:=[]) (l2:=[]) hA.node.ok hA.node.size hA.leaf (by simp[hc]) rq⟩;have k1:Kept G (iI G po) qs:=λq hq=>⟨λhu=>(hD.bS q).2 (Yu q hq),hD.cont q⟩;exact k1.trans (hl.kept qs λx hx=>(hD.bS x).2 (Yu x hx))
def sK.del (h:sK G G1 key f rest L 1):Bo G1 0 f.page rest (ft (f.n.cells.take f.at_++f.n.cells.drop (f.at_+1))) (pO L key)/\(ft (f.n.cells.take f.at_++f.n.cells.drop (f.at_+1))).size<=640:=by
 obtain⟨⟨lo,hi,Ll,Lr,ps,Lt,pt,Ld,pd,wz,po,AK,hA,RK,Vp,Cg,hD,rfl,hLd⟩,_⟩:=h
 have e:pO L key=Ll++((Lt++([]++wz))++Lr):=by
  have hA1:∀x∈Ll++Lt,eD x.1 key:=λx hx=>by
   rcases aDB.1 hx with hx|hx
   .exact hA.kl x hx
   .exact hA.kt x hx
  have hB1:∀x∈wz++Lr,eD key x.1:=λx hx=>by
   rcases aDB.1 hx with hx|hx
   .exact Cg x hx
   .exact hA.kr x hx
  rcases hLd with⟨h,_⟩|⟨w,rfl⟩
  .cases h
  .have e:L=(Ll++Lt)++(key,w)::(wz++Lr):=by rw[<-hA.total];simp
   rw[e,QE hA1 hB1];simp
 rw[e];have hl:=BS (cm:=[]) (Lm:=[]) (pm:=[]) (po:=po) hA hD.ok hD.root RK Vp (λqs Yu q hq=>⟨λhu=>(hD.bS q).2 (Yu q hq),hD.cont q⟩) ⟨rfl,rfl⟩ rq rq rq rq Cg;rw[aDV]at hl;have hs:=zG (l1:=[]) (l2:=[]) (cm:=[]) (i:=f.at_) (k:=1) hA.node.ok hA.node.size hA.leaf rq rq;rw[aDV]at hs;exact⟨hl,hs⟩
def Jn {r:Nat}(hl:aaa G G1 c v pc)(hc:c.ok true)(Ae:Hu G1 (ft [c]) G2 r):gK (G2.gO r) (vD [] c.key v):=by
 have Zh:eU G1 [c] [(c.key,v)] pc:=⟨v,pc,[],[],hl.val,⟨rfl,rfl⟩,rfl,rq⟩;have hr:r∉pc:=λhh=>Ae.not (Zh.aE r hh);refine⟨Ae.ok.gO _,.inr ⟨0,r::pc,aDG.2 ⟨hr,hl.nd⟩,ft [c],pc,⟨Ae.is.bS,Ae.is.cont,Ae.is.ok,Ae.is.size,Ae.is.full⟩,⟨rfl,adu,?_,λd hd=>⟨?_,adu⟩⟩,rfl⟩⟩
 .exact Zh.kept (G':=G2.gO r) (Ae.kept pc hr)
 .exact jz _
def OW (hc:c.ok true):(ft [c]).ok/\(ft [c]).size<=512:=by
 refine⟨⟨λd hd=>by simp[ft]at hd;subst hd;exact hc,by unfold iC ft;simp,rfl,by simp[ft]⟩,?_⟩;have:=(iU hc).2.1;have h2:(uv ([c]:List dh).length).length=1:=eJ rq;have h3:cR true [c]=ik true c:=by simp[cR]
 rw[cc];unfold ft;simp only[h2,h3,aDQ];omega
end
end
set_option maxRecDepth 100000
section
variable {τ:Nat} {π:PI} {st st':St} {G:GM}
def KE (h:Tg τ π st G)(p:Nat)(hp:p<=1000):R 43 [.ptr τ 0,I p] st λv st'=>v=.bool (decide (G.cP<24+p))/\st'=st:=by
 refine bN ?_;rw[w43];refine h.get' ?_;refine(OE h.pg).same ?_
 have e:ai .add none true (.int .i64 24) (I p) st=.ok (I ((24+p:Nat):Int)) st:=by
  have:ai .add none true (I ((24:Nat):Int)) (I p) st=.ok (I ((24+p:Nat):Int)) st:=Sa
  exact this
 rw[e,af,dq,af];exact⟨rfl,rfl⟩
def FQ {G:GM}{key:cn}{f:cV}{rest:List cV}{L:List bt}(hp:uW G key f rest L)(hG:uX G):(∃c,f.n.cells[f.at_]?=some c/\c.key=key)\/sK G G key f rest L 0:=by
 obtain⟨lo,hi,Ll,Lr,ps,Lt,pt,Ld,pd,hA⟩:=hp.DH
 by_cases h:∃c,f.n.cells[f.at_]?=some c/\c.key=key
 .exact .inl h
 .exact .inr (hA.adf hG λc hc hk=>h ⟨c,hc,hk⟩)
def Z5 (τ:Nat)(π:PI)(G:GM)(key v:List UInt8)(L:List bt)(st:St)(vs:List CV)(s:St):Prop:=
 ∃x G1,vs=[.ptr τ 0,.str key,.str v,x]/\Kp π.W st s/\Tg τ π s G1/\uX G1/\G.cP<=G1.cP/\G1.aE=G.aE/\
  ((G1=G/\G.root=0/\x=.ae)\/∃f rest k,uW G key f rest L/\sK G G1 key f rest L k/\rest.length<=16/\eZ s π.W x (rest.reverse++[f]))
def Az (τ:Nat)(π:PI)(G:GM)(key v:List UInt8)(L:List bt)(st:St)(y:CV)(st':St):Prop:=
 if 48<key.length\/8192<v.length then y=I 1/\Kp [] st st' else if G.cP<24+dQ v.length then y=I 3/\Kp [] st st' else Cx τ π G (vD L key v) st y st'
def Sm (h:Tg τ π st G){L:List bt}(ht:gK G L)(key v:List UInt8):R 11 [.ptr τ 0,.str key,.str v] st (Az τ π G key v L st):=by
 refine bN ?_;rw[w11];have fk:∀b,st.nx<=b->b∉π.all/\b≠τ:=λb hb=>⟨λhh=>aaH,λe=>WQ⟩;have qD:=h.RV;have u9:∀q,st.nx<=q->q∉π.W:=λq hq hh=>abg
 have e0:ai .gtr none true (I key.length) (.int .i64 48) st=.ok (.bool (decide (48<key.length))) st:=AS
 have e1:ai .gtr none true (I v.length) (.int .i64 8192) st=.ok (.bool (decide (8192<v.length))) st:=AS
 have agp:∀K:CV->Prop,K (.bool (decide (48<key.length\/8192<v.length)))->us (aX (ak false (.bool (decide (48<key.length)))) st (.ok (.str v) st)) (λx4=>us (aX (ak false (.bool (decide (48<key.length)))) st (bj .str x4 st)) λx5=>us (aX (ak false (.bool (decide (48<key.length)))) st (ai .gtr none true x5 (.int .i64 8192) st)) λx6=>us (bf (.bool (decide (48<key.length))) (.bool true) x6 st) K):=λK hK=>by
  by_cases yC:48<key.length
  .rw[aDz (.inl yC)]at hK;simp only[aDz yC,aL,aDp,aDE,aDJ,cH,af,aJ,aDQ];exact hK
  .simp only[aDr yC,aL,aDp,aDE,aDI,bp,af,aJ,fp,e1]
   simpa[yC]using hK
 rw[c8,af,ag,aDv wI,fp,af,e0,af];refine agp _ ?_;rw[ag]
 by_cases rY:48<key.length\/8192<v.length
 .rw[aDz rY,aDy rfl];unfold Az;rw[aDy rY];exact⟨rfl,Kp.refl _ _⟩
 have I6:key.length<=48:=pX
 have hv8:v.length<=8192:=pX
 rw[aDr rY,aDv wI,fp,af];refine(Dh (n:=v.length) pX).same ?_;have hpN:dQ v.length<=1000:=abU
 refine(KE h _ hpN).same ?_;rw[ag]
 by_cases ku:G.cP<24+dQ v.length
 .rw[aDz ku,aDy rfl];unfold Az;rw[aDv rY,aDy ku];exact⟨rfl,Kp.refl _ _⟩
 rw[aDr ku,aDv wI];unfold Az;simp only[aDv rY,aDv ku];refine(Dg h ht key).mono ?_;rintro _ s3 ⟨k3,x,rfl,hx⟩;have t3:=h.still k3;have e2:∀s,ai .neq (some .int) true (I 0) (.int .i64 0) s=.ok (.bool false) s:=λs=>rfl;rw[aD,af,aG,aD,af,e2,af,ag,aDv wI];refine iN (Z5 τ π G key v L st) ?_ ?_
 .intro py TJ;rcases hx with⟨tf,rfl⟩|⟨f,rest,hp,zR,hst⟩
  .have e3:ai .gtr none true (.int .i64 0) (.int .i64 0) s3=.ok (.bool false) s3:=rfl;rw[vF,af,e3,af,ag,aDv wI];exact TJ _ _ ⟨_,G,rfl,k3.mono rq,t3,ht.ok,aDt _,rfl,.inl ⟨rfl,tf,rfl⟩⟩
  .obtain⟨qC,zT,fY,mM,Je⟩:=hp.size;have Ya:=hst π.W qD;have xh:(rest.reverse++[f]).length=rest.length+1:=by simp
   have hlen:=Ya.len s3;rw[xh]at hlen;have e3:ai .gtr none true (I ((rest.length+1:Nat):Int)) (.int .i64 0) s3=.ok (.bool true) s3:=by rw[ay,dx,aDz pX]
   have e4:=yR (rest.length+1) pX pX s3 none;rw[aEL]at e4;obtain⟨vc,vk,c1,c2,jB⟩:=Ya.row (i:=rest.length) rq;have hf:(rest.reverse++[f])[rest.length]'(by simp)=f:=rq
   rw[hf]at c1 c2 jB;rw[hlen,af,e3,af,ag,aDy rfl,af,e4,af];refine jB _ ?_;refine oE c1.bD.2.1 c2.bD.2.1 ?_;have Tj:Kp [] s3 (St.new s3 (.cells [I f.page,I f.at_,.bool f.n.leaf,vc,vk] 107 false)):=(Kp.refl [] s3).new _;have RP:(St.new s3 (.cells [I f.page,I f.at_,.bool f.n.leaf,vc,vk] 107 false)).m.g s3.nx=some (.cells [I f.page,I f.at_,.bool f.n.leaf,vc,vk] 107 false):=aw _ _;generalize St.new s3 (.cells [I f.page,I f.at_,.bool f.n.leaf,vc,vk] 107 false)=iS at*;have t24:=t3.still Tj;have c24:=c1.mono (Tj.mono rq);have K24:=k3.trans Tj rq;have Xe:=Ya.mono (Tj.mono rq);simp only[fl,ah,af,aC,RP,ar,aDx,Nat.reduceAdd,aDq,aDo,az,c24.len f.n.cells.length (bM _) pX iS,dq]
   by_cases hlt:f.at_<f.n.cells.length
   .rw[aDz hlt];obtain⟨b,p,l,t,g,q1,q2,q3,q4,q5⟩:=c24.cellAt (L:=f.n.cells.map aZ) pX (fM _) (i:=f.at_) Wt;have q6:=q5 0 (.str f.n.cells[f.at_].key) aaq;rw[aEb]at q6;simp only[aL,aDQ,bp,af,jV,fA,ah,aC,RP,ar,aDx,aEb,Nat.reduceAdd,aDq,aDo,az,q1,q2,q6,dY,rJ,aJ,ag]
    by_cases hk:f.n.cells[f.at_].key=key
    .rw[aDz hk,aDy rfl];obtain⟨lo,hi,Ll,Lr,ps,Lt,pt,Ld,pd,hA⟩:=hp.DH;obtain⟨w,po,hv,Yv,kX,Gy,_⟩:=hA.Vc ht.ok (aDu hlt) hk;refine c24.iH (L:=f.n.cells.map aZ) pX (fM _) Wt _ ?_;have e:(f.n.cells.map aZ)[f.at_]'(by simpa using hlt)=aZ f.n.cells[f.at_]:=by simp
     rw[e];have DW:=zT.cell _ (aDL hlt);rw[fY]at DW;refine(Ck t24 DW hv Yv).mono ?_;rintro _ ln ⟨rfl,Rw,t25⟩;rw[e2,af,ag,aDv wI];have hD:=kX.ex;obtain⟨_,_,_,_,_,_,_,_,_,_,po',_,_,_,_,_,hD,eG,_⟩:=hD;refine TJ _ _ ⟨_,_,rfl,(K24.mono rq).trans Rw adt,t25,by rw[eG];exact hD.ok,by rw[Gy];omega,by rw[eG];exact hD.aE,.inr ⟨f,rest,1,hp,kX,zR,Xe.mono Rw⟩⟩
    .rw[aDr hk,aDv wI];rcases FQ hp ht.ok with⟨c,hc,xj⟩|kX
     .rw[aDu hlt]at hc;cases hc;exact absurd xj hk
     .exact TJ _ _ ⟨_,G,rfl,K24.mono rq,t24,ht.ok,aDt _,rfl,.inr ⟨f,rest,0,hp,kX,zR,Xe⟩⟩
   .rw[aDr hlt];simp only[aL,aDp,aDE,aDQ,cH,af,jV,fA,aJ,ag];rcases FQ hp ht.ok with⟨c,hc,xj⟩|kX
    .obtain⟨h1,_⟩:=aDD.1 hc;exact absurd h1 hlt
    .exact TJ _ _ ⟨_,G,rfl,K24.mono rq,t24,ht.ok,aDt _,rfl,.inr ⟨f,rest,0,hp,kX,zR,Xe⟩⟩
 .rintro _ s4 ⟨x,G1,rfl,K4,t4,ok1,Y2,amK,KA⟩;simp only[aH,aI];refine(NO t4 I6 hv8 pX).mono ?_;rintro _ s5 ⟨k5,c,G2,pc,rfl,xj,DW,Ad,t5⟩;have n5:=k5.nx;have n4:=K4.nx;have K5:=K4.trans k5 adt;rw[aD,af,aG,aD,af];refine ud rfl rfl (gz c) ?_;have k7:Kp [] s5 (St.new s5 (.cells (aZ c) 109 false)):=(Kp.refl [] s5).new _;have g7:(St.new s5 (.cells (aZ c) 109 false)).m.g s5.nx=some (.cells (aZ c) 109 false):=aw _ _;have n7:(St.new s5 (.cells (aZ c) 109 false)).nx=s5.nx+1:=rfl;generalize St.new s5 (.cells (aZ c) 109 false)=s7 at*;have t7:=t5.still k7;have K7:=K5.trans k7 rq;rw[e2,af,ag,aDv wI];rcases KA with⟨rfl,tf,rfl⟩|⟨f,rest,k,hp,kX,zR,hst⟩
  .have hL0:L=[]:=by
    rcases ht.tree with h|⟨hh,ps,_,hs⟩
    .exact h.2
    .obtain⟨n,q,hn,_⟩:=hs;have:=hn.bS.1;omega
   subst hL0;have e3:ai .eql (some .int) true (.int .i64 0) (.int .i64 0) s7=.ok (.bool true) s7:=rfl;rw[vF,af,e3,af,ag,aDy rfl,aR (n:=4) g7 rfl,af,Ar (k:=4) rfl rfl rfl,aT,aV];have k8:Kp [] s7 (St.new s7 (.cells (aZ c) 109 false)):=(Kp.refl [] s7).new _;have g8:(St.new s7 (.cells (aZ c) 109 false)).m.g s7.nx=some (.cells (aZ c) 109 false):=aw _ _;have n8:(St.new s7 (.cells (aZ c) 109 false)).nx=s7.nx+1:=rfl;generalize St.new s7 (.cells (aZ c) 109 false)=s8 at*;have t8:=t7.still k8;have mR:bu [.bool false,.ae,.ae] [(0,1,.bool true),(1,1,.slice s7.nx 0 1 1 0)] s8=.ok (.agg [.bool true,.slice s7.nx 0 1 1 0,.ae]) s8:=rfl;rw[mR,af]
   have Ps:IsNode s8 π.W (.agg [.bool true,.slice s7.nx 0 1 1 0,.ae]) (ft [c]):=
    ⟨_,_,rfl,.inr ⟨s7.nx,0,1,1,0,rfl,rfl,⟨aDt _,.inl rfl⟩,.inr ⟨u9 _ pX,pX,_,_,_,g8,aaq,by simp[ft,bG,aZ]⟩⟩,.inl ⟨rfl,rfl⟩⟩
   have Mg:=Ad.free;obtain⟨l1,l2⟩:=OW DW;have Ae:=Q0 Ad.ok (show 0<G2.cP from pX) l1 l2 (.inl rfl);refine(CK t8 pX Ps l1 l2).mono ?_;rintro _ s9 ⟨rfl,k9,t9⟩;rw[aD,af,aG,aD,af,e2,af,ag,aDv wI];refine t9.get' ?_;refine(sX t9.pg _ (.inr Ae.is.bS)).mono ?_;rintro _ dp ⟨rfl,rn,p10⟩;refine⟨rfl,(((K7.trans k8 rq).trans k9 adt).trans rn adt),_,t9.of rn p10,?_,?_⟩
   .have:=Jn Ad DW Ae
    rwa [xj]at this
   .exact Ae.aE.trans Ad.aE
  .obtain⟨qC,zT,fY,mM,Je⟩:=hp.size;have st7:=hst.mono (k5.trans k7 rq);have xh:(rest.reverse++[f]).length=rest.length+1:=by simp
   have hlen:=st7.len s7;rw[xh]at hlen;have e3:ai .eql (some .int) true (I ((rest.length+1:Nat):Int)) (.int .i64 0) s7=.ok (.bool false) s7:=R6
   have e4:=yR (rest.length+1) pX pX s7 none;rw[aEL]at e4;obtain⟨vc,vk,c1,c2,jB⟩:=st7.row (i:=rest.length) rq;have hf:(rest.reverse++[f])[rest.length]'(by simp)=f:=rq
   rw[hf]at c1 c2 jB
   have Gt:f.n.kids=[]:=by
    have:=zT.jA;rw[fY,aDy rfl]at this;exact aDP.1 this
   rw[hlen,af,e3,af,ag,aDv wI,af,e4,af];rw[fY]at jB;refine jB _ ?_;refine oE c1.bD.2.1 c2.bD.2.1 ?_;have k8:Kp [] s7 (St.new s7 (.cells [I f.page,I f.at_,.bool true,vc,vk] 107 false)):=(Kp.refl [] s7).new _;have g8:(St.new s7 (.cells [I f.page,I f.at_,.bool true,vc,vk] 107 false)).m.g s7.nx=some (.cells [I f.page,I f.at_,.bool true,vc,vk] 107 false):=aw _ _;have n8:(St.new s7 (.cells [I f.page,I f.at_,.bool true,vc,vk] 107 false)).nx=s7.nx+1:=rfl;generalize St.new s7 (.cells [I f.page,I f.at_,.bool true,vc,vk] 107 false)=s8 at*;have g78:=(k8.keep s5.nx pX rq).trans g7
   have I9:∀K:CV->Prop,K (.agg [.bool true,vc,vk])->Nf 3 2 (.ptr s7.nx 0) s8 K:=λK hK=>by
    unfold Nf;rw[ah,af,gM (n:=3) g8 rq,af];exact hK
   refine I9 _ ?_;refine sZ c1.bD.2.1 c2.bD.2.1 ?_;have k9:Kp [] s8 (St.new s8 (.cells [.bool true,vc,vk] 105 false)):=(Kp.refl [] s8).new _;have g9:(St.new s8 (.cells [.bool true,vc,vk] 105 false)).m.g s8.nx=some (.cells [.bool true,vc,vk] 105 false):=aw _ _;have n9:(St.new s8 (.cells [.bool true,vc,vk] 105 false)).nx=s8.nx+1:=rfl;generalize St.new s8 (.cells [.bool true,vc,vk] 105 false)=s9 at*;have g89:=(k9.keep s7.nx pX rq).trans g8;have g79:=(k9.keep s5.nx pX rq).trans g78;have k79:=k8.trans k9 rq;rw[fl,ah,af,aC,g9,ar];simp only[aDx,aDq,aDo,az];refine(wo ((c1.dz (Y:=[]) rq).mono (k79.mono rq)) (eN _) aaJ).mono ?_;rintro xc iT ⟨F1,A8,o1,Mv,_⟩;have n15:=A8.nx;have g15:=(A8.keep s8.nx pX rq).trans g9;have apZ:=(A8.keep s7.nx pX rq).trans g89;have aqb:=(A8.keep s5.nx pX rq).trans g79;obtain⟨Xw,SV⟩:=o1.ck;have ri:bo [.bool true,vc,vk] 1 [xc]=[.bool true,xc,vk]:=rfl;rw[Lim.fst,ah,af,aF,g15,aS,SV,aDx,ri];refine⟨⟨rfl,by simp[Xw],rq⟩,?_⟩;have L0:Kp [] s7 (St.set iT s8.nx (.cells [.bool true,xc,vk] 105 false)):=(k79.trans A8 rq).set _ (.inr pX) pX;have Qh:(St.set iT s8.nx (.cells [.bool true,xc,vk] 105 false)).m.g s8.nx=some (.cells [.bool true,xc,vk] 105 false):=aq _ _ _;have agd:(St.set iT s8.nx (.cells [.bool true,xc,vk] 105 false)).m.g s7.nx=_:=(al _ _ _ _ pX).trans apZ;have ZE:(St.set iT s8.nx (.cells [.bool true,xc,vk] 105 false)).m.g s5.nx=_:=(al _ _ _ _ pX).trans aqb;have n16:(St.set iT s8.nx (.cells [.bool true,xc,vk] 105 false)).nx=iT.nx:=rfl;have ue:∀b∈F1,s8.nx<b/\b<iT.nx:=λb hb=>adm
   have o16:Own (St.set iT s8.nx (.cells [.bool true,xc,vk] 105 false)) xc 4 109 (bG f.n.cells) F1:=o1.mono λb hb=>by have:=ue b hb;rw[al _ _ _ _ pX]
   generalize St.set iT s8.nx (.cells [.bool true,xc,vk] 105 false)=cO at*;have K16:=K7.trans L0 rq;have t16:=t7.still L0;have avT:=st7.mono (L0.mono rq);have avK:Sl cO π.W vk 1 (cF []):=by rw[<-Gt];exact c2.mono (L0.mono rq)
   refine iN (λvs s=>∃vcn vkn,vs=[.ptr τ 0,x,.ptr s8.nx 0]/\Kp π.W st s/\Tg τ π s G2/\eZ s π.W x (rest.reverse++[f])/\s.m.g s8.nx=some (.cells [.bool true,vcn,vkn] 105 false)/\IsNode s π.W (.agg [.bool true,vcn,vkn]) (ft (f.n.cells.take f.at_++([c]++f.n.cells.drop (f.at_+k))))) ?_ ?_
   .intro k41 aeq;have ace:Sl cO [] xc 4 (f.n.cells.map aZ).flatten:=o16.sl λb hb=>⟨rq,R8⟩;simp only[fl,ah,af,aC,Qh,agd,ar,aDx,aDq,aDo,az,ace.len f.n.cells.length (bM _) pX cO,dq]
    have aex:k=0->R 51 [xc,I f.at_,.slice cO.nx 0 1 1 0] (St.new cO (.cells (aZ c) 109 false)) λoz fD=>Lim.fst 1 1 (.ptr s8.nx 0) oz fD λyf=>k41 [.ptr τ 0,x,.ptr s8.nx 0] yf:=by
     intro M8;have kA:Kp [] cO (St.new cO (.cells (aZ c) 109 false)):=(Kp.refl [] cO).new _;have gA:(St.new cO (.cells (aZ c) 109 false)).m.g cO.nx=some (.cells (aZ c) 109 false):=aw _ _;have nA:(St.new cO (.cells (aZ c) 109 false)).nx=cO.nx+1:=rfl;generalize St.new cO (.cells (aZ c) 109 false)=sA at*;have oA:=o16.keep kA λb hb=>⟨R8,rq⟩;refine(FZ oA (bM _) pX (λb hb=>R8) gA (λhh=>abh) rfl (eN _) (gz _) Je).mono ?_;rintro oz fD ⟨F2,o2,Hz,fF2⟩;have n21:=Hz.nx;have Yk:s8.nx∉F1:=λhh=>abh
     have g21:=((Hz.keep s8.nx pX Yk).trans (kA.keep s8.nx pX rq)).trans Qh;obtain⟨oe1,oe2⟩:=o2.ck;have ko:bo [.bool true,xc,vk] 1 [oz]=[.bool true,oz,vk]:=rfl;rw[Lim.fst,ah,af,aF,g21,aS,oe2,aDx,ko];refine⟨⟨rfl,by simp[oe1],rq⟩,?_⟩
     have tb:∀b∈F2,s8.nx<b/\b<fD.nx:=λb hb=>by
      obtain⟨p1,p2⟩:=fF2 b hb;refine⟨?_,p2⟩;rcases p1 with h|h
      .have:=(ue b h).1;omega
      .omega
     have Jo:(bG f.n.cells).take (f.at_*4)++(aZ c++(bG f.n.cells).drop (f.at_*4))=bG (ft (f.n.cells.take f.at_++([c]++f.n.cells.drop (f.at_+k)))).cells:=by
      rw[la _ _ Je,lb _ _ Je,M8];show _=bG (f.n.cells.take f.at_++c::f.n.cells.drop f.at_);rw[gX]
      congr 1
     rw[Jo]at o2;have o22:Own (St.set fD s8.nx (.cells [.bool true,oz,vk] 105 false)) oz 4 109 (bG (ft (f.n.cells.take f.at_++([c]++f.n.cells.drop (f.at_+k)))).cells) F2:=o2.mono λb hb=>by have:=tb b hb;rw[al _ _ _ _ pX]
     have Tf:Kp [] s7 (St.set fD s8.nx (.cells [.bool true,oz,vk] 105 false)):=((L0.trans kA rq).trans Hz λq hq=>.inr (by have:=ue q hq;omega)).set _ (.inr pX) pX;have arQ:Kp (s8.nx::F1) cO (St.set fD s8.nx (.cells [.bool true,oz,vk] 105 false)):=((kA.mono rq).trans Hz λq hq=>.inl WD).set _ (.inl rq) pX;have ZH:(St.set fD s8.nx (.cells [.bool true,oz,vk] 105 false)).m.g s8.nx=some (.cells [.bool true,oz,vk] 105 false):=aq _ _ _;have n22:(St.set fD s8.nx (.cells [.bool true,oz,vk] 105 false)).nx=fD.nx:=rfl;generalize St.set fD s8.nx (.cells [.bool true,oz,vk] 105 false)=yf at*;have ako:Sl yf π.W vk 1 (cF []):=by rw[<-Gt];exact c2.mono (Tf.mono rq)
     exact aeq _ _ ⟨oz,vk,rfl,K7.trans Tf rq,t7.still Tf,st7.mono (Tf.mono rq),ZH,oz,vk,rfl,o22.sl λb hb=>⟨u9 b R7,R7⟩,ako⟩
    by_cases hlt:f.at_<f.n.cells.length
    .rw[aDz hlt];obtain⟨b,p,l,t,g,q1,q2,q3,q4,q5⟩:=ace.cellAt pX (fM _) (i:=f.at_) Wt;have q6:=q5 0 (.str f.n.cells[f.at_].key) aaq;rw[aEb]at q6;simp only[aL,aDQ,bp,af,jV,fA,ah,aC,Qh,agd,ar,aDx,aEb,aDq,aDo,az,q1,q2,q6,dY,rJ,aJ,ag]
     by_cases hk:f.n.cells[f.at_].key=key
     .rw[aDz hk,aDy rfl,aR (n:=4) ZE rfl,af]
      have nt:k=1:=by
       rcases kX.found with⟨h,_⟩|⟨_,_,h⟩
       .exact h
       .exact absurd hk (h _ (aDu hlt))
      obtain⟨bc,rfl,wa,apP⟩:=ma o16 pX (bM _) pX;have hbc:=ue bc (by simp[wa])
      have hix:cQ 4 (.slice bc 0 f.n.cells.length f.n.cells.length 4) (I f.at_) cO=.ok (.ptr bc (f.at_*4)) cO:=by
       have:=fU (size:=4) (off:=0) (cap:=f.n.cells.length) (grow:=4) hlt (.inr (aDt _)) cO (b:=bc)
       rwa [aDx]at this
      have Yx:bo (bG f.n.cells) (f.at_*4) (aZ c)=bG (ft (f.n.cells.take f.at_++([c]++f.n.cells.drop (f.at_+k)))).cells:=by
       unfold bG;rw[xm (fM _) _ Wt _ rfl,nt];unfold ft;rw[aFF,aDy Wt];simp[aFc,aEN]
      unfold Ga;rw[hix,af,aF,apP,aS,aV,Yx];refine⟨⟨rfl,rfl,aaJ⟩,?_⟩;have Th:Kp [] s7 (St.set cO bc (.cells (bG (ft (f.n.cells.take f.at_++([c]++f.n.cells.drop (f.at_+k)))).cells) 109 true)):=L0.set _ (.inr pX) pX;have apO:(St.set cO bc (.cells (bG (ft (f.n.cells.take f.at_++([c]++f.n.cells.drop (f.at_+k)))).cells) 109 true)).m.g bc=some (.cells (bG (ft (f.n.cells.take f.at_++([c]++f.n.cells.drop (f.at_+k)))).cells) 109 true):=aq _ _ _;have Ui:(St.set cO bc (.cells (bG (ft (f.n.cells.take f.at_++([c]++f.n.cells.drop (f.at_+k)))).cells) 109 true)).m.g s8.nx=_:=(al _ _ _ _ pX).trans Qh;have n17:(St.set cO bc (.cells (bG (ft (f.n.cells.take f.at_++([c]++f.n.cells.drop (f.at_+k)))).cells) 109 true)).nx=cO.nx:=rfl;generalize St.set cO bc (.cells (bG (ft (f.n.cells.take f.at_++([c]++f.n.cells.drop (f.at_+k)))).cells) 109 true)=lp at*;have ZO:(ft (f.n.cells.take f.at_++([c]++f.n.cells.drop (f.at_+k)))).cells.length=f.n.cells.length:=by unfold ft;simp;omega
      have akp:Sl lp π.W vk 1 (cF []):=by rw[<-Gt];exact c2.mono (Th.mono rq)
      exact aeq _ _ ⟨_,vk,rfl,K7.trans Th rq,t7.still Th,st7.mono (Th.mono rq),Ui,_,vk,rfl,.inr ⟨bc,0,_,_,4,rfl,by rw[bM,ZO],⟨aDt _,.inr rfl⟩,.inr ⟨u9 _ pX,pX,_,_,_,apO,acL,by rw[aDX,aDA acL]⟩⟩,akp⟩
     .rw[aDr hk,aDv wI,aR (n:=4) ZE rfl,af,Ar (k:=4) rfl rfl rfl,aT,aV];refine aex ?_;rcases kX.found with⟨_,c',oZ,afa⟩|⟨h,_⟩
      .rw[aDu hlt]at oZ;cases oZ;exact absurd afa hk
      .exact h
    .rw[aDr hlt];simp only[aL,aDp,aDE,aDQ,cH,af,jV,fA,aJ,ag];rw[aR (n:=4) ZE rfl,af,Ar (k:=4) rfl rfl rfl,aT,aV];refine aex ?_;rcases kX.found with⟨_,c',oZ,afa⟩|⟨h,_⟩
     .obtain⟨h1,_⟩:=aDD.1 oZ;exact absurd h1 hlt
     .exact h
   .rintro _ lp ⟨vcn,vkn,rfl,K17,t17,akF,Ui,XA⟩;simp only[aH,aI];obtain⟨gg,gs⟩:=kX.put Ad xj DW;refine gj (n:=ft (f.n.cells.take f.at_++([c]++f.n.cells.drop (f.at_+k)))) Ui ?_;have Mg:=Ad.free;refine(KI t17 gg gs pX akF XA zR).mono ?_;rintro _ dj ⟨rfl,Rx,G',t18,aky,qz⟩;exact⟨rfl,K17.trans Rx adt,G',t18,aky,qz.trans (Ad.aE.trans amK)⟩
end
section
variable {τ:Nat} {π:PI} {st st':St} {G:GM}
def Jz (τ:Nat)(π:PI)(G:GM)(key:List UInt8)(L:List bt)(st:St)(y:CV)(st':St):Prop:=
 if 48<key.length then y=.tuple [.bool false,I 1]/\Kp [] st st' else if G.cP<24 then y=.tuple [.bool false,I 3]/\Kp [] st st' else
  y=.tuple [.bool (lA L key).isSome,I 0]/\Kp π.W st st'/\∃G',Tg τ π st' G'/\gK G' (pO L key)/\G'.aE=G.aE
def Sq (h:Tg τ π st G){L:List bt}(ht:gK G L)(key:cn):R 41 [.ptr τ 0,.str key] st (Jz τ π G key L st):=by
 refine bN ?_;rw[w41];have fk:∀b,st.nx<=b->b∉π.all/\b≠τ:=λb hb=>⟨λhh=>aaH,λe=>WQ⟩;have qD:=h.RV;have u9:∀q,st.nx<=q->q∉π.W:=λq hq hh=>abg
 have e0:ai .gtr none true (I key.length) (.int .i64 48) st=.ok (.bool (decide (48<key.length))) st:=AS
 rw[c8,af,ag,aDv wI,fp,af,e0,af,ag];unfold Jz
 by_cases rY:48<key.length
 .rw[aDz rY,aDy rfl];simp only[aDy rY];exact⟨adu,Kp.refl _ _⟩
 rw[aDr rY,aDv wI];have hfk:=KE h 0 pX;refine hfk.same ?_;rw[ag]
 by_cases ku:G.cP<24+0
 .rw[aDz ku,aDy rfl];simp only[aDv rY];rw[aDy pX];exact⟨adu,Kp.refl _ _⟩
 rw[aDr ku,aDv wI];simp only[aDv rY,aDv (show¬G.cP<24 by omega)];refine(Dg h ht key).mono ?_;rintro _ s2 ⟨k2,x,rfl,hx⟩;have t2:=h.still k2;have e2:∀s,ai .neq (some .int) true (I 0) (.int .i64 0) s=.ok (.bool false) s:=λs=>rfl;rw[aD,af,aG,aD,af,e2,af];simp only[aL,aDp,aDE,aDI,bp,af]
 have Xd:∀s,Kp [] st s->lA L key=none->pO L key=L->(CV.tuple [.bool false,.int .i64 0]=.tuple [.bool (lA L key).isSome,I 0]/\Kp π.W st s/\∃G',Tg τ π s G'/\gK G' (pO L key)/\G'.aE=G.aE):=λs hs h1 h2=>by
  rw[h1,h2];exact⟨rfl,hs.mono rq,G,h.still hs,ht,rfl⟩
 rcases hx with⟨tf,rfl⟩|⟨f,rest,hp,zR,hst⟩
 .have hL0:L=[]:=by
   rcases ht.tree with h|⟨hh,ps,_,hs⟩
   .exact h.2
   .obtain⟨n,q,hn,_⟩:=hs;have:=hn.bS.1;omega
  subst hL0;have e3:ai .eql (some .int) true (.int .i64 0) (.int .i64 0) s2=.ok (.bool true) s2:=rfl;simp only[vF,af,e3,aJ,aDp,aDE,ag,aDQ];exact Xd s2 k2 rfl rfl
 .obtain⟨qC,zT,fY,mM,Je⟩:=hp.size;have Yb:=hst π.W qD;have xh:(rest.reverse++[f]).length=rest.length+1:=by simp
  have hlen:=Yb.len s2;rw[xh]at hlen;have e3:ai .eql (some .int) true (I ((rest.length+1:Nat):Int)) (.int .i64 0) s2=.ok (.bool false) s2:=R6
  have e4:=yR (rest.length+1) pX pX s2 none;rw[aEL]at e4;obtain⟨vc,vk,c1,c2,jB⟩:=Yb.row (i:=rest.length) rq;have hf:(rest.reverse++[f])[rest.length]'(by simp)=f:=rq
  rw[hf]at c1 c2 jB
  have Gt:f.n.kids=[]:=by
   have:=zT.jA;rw[fY,aDy rfl]at this;exact aDP.1 this
  simp only[hlen,af,e3,aJ,aDp,aDE,ag,e4];rw[fY]at jB;refine jB _ ?_;refine oE c1.bD.2.1 c2.bD.2.1 ?_;have k4:Kp [] s2 (St.new s2 (.cells [I f.page,I f.at_,.bool true,vc,vk] 107 false)):=(Kp.refl [] s2).new _;have g4:(St.new s2 (.cells [I f.page,I f.at_,.bool true,vc,vk] 107 false)).m.g s2.nx=some (.cells [I f.page,I f.at_,.bool true,vc,vk] 107 false):=aw _ _;have n4:(St.new s2 (.cells [I f.page,I f.at_,.bool true,vc,vk] 107 false)).nx=s2.nx+1:=rfl;generalize St.new s2 (.cells [I f.page,I f.at_,.bool true,vc,vk] 107 false)=s4 at*;have k2n:=k2.nx;have t4:=t2.still k4;have c4:=c1.mono (k4.mono rq);have K4:=k2.trans k4 rq;have st4:=Yb.mono (k4.mono rq);obtain⟨lo,hi,Ll,Lr,ps,Lt,pt,Ld,pd,hA⟩:=hp.DH;have e5:ai .eql (some .int) false (I f.at_) (I f.n.cells.length) s4=.ok (.bool (decide (f.at_=f.n.cells.length))) s4:=Sb
  simp only[fl,ah,af,aC,g4,ar,aDx,Nat.reduceAdd,aDq,aDo,az,c4.len f.n.cells.length (bM _) pX s4,e5]
  by_cases Aa:f.at_=f.n.cells.length
  .obtain⟨_,qY,hde⟩:=hA.FW (λc hc=>by rw[Aa,aEl (aDt _)]at hc;cases hc);rw[aDz Aa];simp only[aL,aDp,aDE,aDJ,cH,af,jV,fA,aJ,aDQ,ag];exact Xd s4 K4 qY hde
  .have hlt:f.at_<f.n.cells.length:=by omega
   rw[aDr Aa];obtain⟨b,p,l,t,g,q1,q2,q3,q4,q5⟩:=c4.cellAt (L:=f.n.cells.map aZ) pX (fM _) (i:=f.at_) Wt;have q6:=q5 0 (.str f.n.cells[f.at_].key) aaq;rw[aEb]at q6;simp only[aL,aDp,aDE,aDI,bp,af,jV,fA,ah,aC,g4,ar,aDx,aEb,Nat.reduceAdd,aDq,aDo,az,q1,q2,q6,dY,lH,aJ,ag]
   by_cases hk:f.n.cells[f.at_].key=key
   .obtain⟨w,po,hv,Yv,kX,Gy,zY⟩:=hA.Vc ht.ok (aDu hlt) hk;rw[aDz hk,aDJ,aDv wI];refine c4.iH (L:=f.n.cells.map aZ) pX (fM _) Wt _ ?_;have e:(f.n.cells.map aZ)[f.at_]'(by simpa using hlt)=aZ f.n.cells[f.at_]:=by simp
    rw[e];have DW:=zT.cell _ (aDL hlt);rw[fY]at DW;refine(Ck t4 DW hv Yv).mono ?_;rintro _ s5 ⟨rfl,k5,t5⟩;have n5:=k5.nx;have g5:=(k5.keep s2.nx pX (u9 _ pX)).trans g4;have K5:=(K4.mono rq).trans k5 adt;rw[e2,af,ag,aDv wI]
    have I9:∀K:CV->Prop,K (.agg [.bool true,vc,vk])->Nf 3 2 (.ptr s2.nx 0) s5 K:=λK hK=>by
     unfold Nf;rw[ah,af,gM (n:=3) g5 rq,af];exact hK
    refine I9 _ ?_;refine sZ c1.bD.2.1 c2.bD.2.1 ?_;have c5:=(c4.mono k5);have d5:=((c2.mono (k4.mono rq)).mono k5);have k7:Kp [] s5 (St.new s5 (.cells [.bool true,vc,vk] 105 false)):=(Kp.refl [] s5).new _;have g7:(St.new s5 (.cells [.bool true,vc,vk] 105 false)).m.g s5.nx=some (.cells [.bool true,vc,vk] 105 false):=aw _ _;have n7:(St.new s5 (.cells [.bool true,vc,vk] 105 false)).nx=s5.nx+1:=rfl;generalize St.new s5 (.cells [.bool true,vc,vk] 105 false)=s7 at*;have g47:=(k7.keep s2.nx pX rq).trans g5;rw[bA,ah,af,aC,g7,ar];simp only[aDx,aDq,aDo,az];refine(wo ((c5.dz (Y:=[]) rq).mono (k7.mono rq)) (eN _) aaJ).mono ?_;rintro xc s8 ⟨F1,A8,o1,Mv,_⟩;have n8:=A8.nx;have g8:=(A8.keep s5.nx pX rq).trans g7;have g48:=(A8.keep s2.nx pX rq).trans g47;have ue:∀b∈F1,s5.nx<b/\b<s8.nx:=λb hb=>adm
    simp only[ah,af,g48,g47,ar,aDx,aDq,aDo,az,gT f.at_ pX,aFw,and_true];refine(GV (n:=f.n.cells.length) o1 (bM _) pX (λb hb=>R8) (eN _) hlt).mono ?_;rintro lX s9 ⟨o9,k9,n9⟩;have g9:=(k9.keep s5.nx pX (λhh=>abh)).trans g8
    have ec:(bG f.n.cells).take (f.at_*4)++(bG f.n.cells).drop ((f.at_+1)*4)=bG (ft (f.n.cells.take f.at_++f.n.cells.drop (f.at_+1))).cells:=by
     rw[la _ _ pX,lb _ _ pX,<-gX];rfl
    rw[ec]at o9
    have abZ:=o9 (π.W++[s5.nx]) λb hb hh=>by
     have:=ue b hb;simp at hh;rcases hh with hh|hh
     .exact u9 b pX hh
     .omega
    have vk9:Sl s9 (π.W++[s5.nx]) vk 1 (cF []):=by
     have e:cF []=cF f.n.kids:=by rw[Gt]
     rw[e]
     have d7:=d5.dz (Y:=π.W++(s5.nx::F1)) (by
      intro b hb;simp at hb;rcases hb with h|h|h
      .exact .inl h
      .right;omega
      .right;have:=ue b h;omega)
     have tN:∀b∈π.W++[s5.nx],b∈π.W++(s5.nx::F1):=λb hb=>by
      rcases aDB.1 hb with h|h
      .exact aEV _ h
      .have h2:=aEE.1 h;rw[h2];exact aFt _ aEw
     have d9:=((d7.mono (k7.mono rq)).mono (A8.mono rq)).mono (k9.mono (G:=π.W++(s5.nx::F1)) (by intro b hb;left;simp[hb]));exact d9.dz λb hb=>.inl (tN b hb)
    obtain⟨z1,z2,z3⟩:=abZ.bD;have ri:bo [.bool true,vc,vk] 1 [lX]=[.bool true,lX,vk]:=rfl;rw[aF,g9,aS,z3,ri];refine⟨⟨rfl,by simp[z2],rq⟩,?_⟩;have XM:Kp [s5.nx] s9 (St.set s9 s5.nx (.cells [.bool true,lX,vk] 105 false)):=(Kp.refl _ s9).set _ (.inl rq) pX;have RQ:(St.set s9 s5.nx (.cells [.bool true,lX,vk] 105 false)).m.g s5.nx=some (.cells [.bool (ft (f.n.cells.take f.at_++f.n.cells.drop (f.at_+1))).leaf,lX,vk] 105 false):=aq _ _ _;generalize St.set s9 s5.nx (.cells [.bool true,lX,vk] 105 false)=dp at*;have XP:=((k7.trans A8 rq).trans k9 λq hq=>.inr (by have:=ue q hq;omega)).trans XM (by intro q hq;right;simp at hq;omega)
    have XB:IsNode dp π.W (.agg [.bool (ft (f.n.cells.take f.at_++f.n.cells.drop (f.at_+1))).leaf,lX,vk]) (ft (f.n.cells.take f.at_++f.n.cells.drop (f.at_+1))):=
     ⟨lX,vk,rfl,(abZ.mono (XM.mono (by intro q hq;left;exact aFt _ hq))).dz (λq hq=>.inl (aEV _ hq)),(vk9.mono (XM.mono (by intro q hq;left;exact aFt _ hq))).dz (λq hq=>.inl (aEV _ hq))⟩
    have t10:=t5.still XP;have Ss:=(st4.mono k5).mono (XP.mono rq);refine gj RQ ?_;obtain⟨gg,gs⟩:=kX.del;refine(KI t10 gg gs pX Ss XB zR).mono ?_;rintro _ c9 ⟨rfl,rh,G',t11,akz,qz⟩;rw[e2,af,ag,aDv wI,zY];have hD:=kX.ex;obtain⟨_,_,_,_,_,_,_,_,_,_,po',_,_,_,_,_,hD,eG,_⟩:=hD;exact⟨rfl,(K5.trans XP rq).trans rh adt,G',t11,akz,qz.trans (by rw[eG];exact hD.aE)⟩
   .obtain⟨_,qY,hde⟩:=hA.FW (λc hc=>by rw[aDu hlt]at hc;cases hc;exact hk);rw[aDr hk,aDI,aDy rfl];exact Xd s4 K4 qY hde
end
