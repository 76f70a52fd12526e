import Derived.Test.YtomffjeofpafnaaGreatDoorBtB
namespace Lim
open Go
noncomputable section
set_option linter.defProp false
set_option maxRecDepth 100000
section
variable {τ:Nat} {π:PI} {st st':St} {G:GM}
def yU {n:bg}(h:n.ok)(hs:128<=n.size):n.leaf=true\/n.cells≠[]:=by
 by_cases hc:n.cells=[]
 .cases fY:n.leaf with
  |true=>exact .inl rfl
  |false=>
   exfalso;have hk:=h.jA;rw[fY,aDv wI,hc]at hk;have h2:=pK h.BV;rw[cc,fY,hc]at hs;have h3:(uv ([]:List dh).length).length=1:=eJ rq;simp only[aDp,aDE]at hs;simp only[aEO]at hk;rw[hk]at h2;have h4:(cR false []).length=0:=rfl;omega
 .exact .inr hc
structure UH (τ:Nat)(π:PI)(st:St)(G:GM)(h:Nat)(sm:cV)(rest:List cV)(LL:List bt)(x:CV)(b53:Nat)(vs:List CV)(s:St)(left:Nat)(first second:bg)(sep:cn)(pf pn:Nat)(aE:List Nat)(d:tE)(Wf We:Nat)(cf kf cs ks vcp vkp:CV):Prop where
 vs:vs=[.ptr τ 0,x,.ptr b53 0,.ptr Wf 0,.ptr We 0,I left]
 kp:Kp [] st s
 lt:b53<s.nx/\Wf<s.nx/\We<s.nx
 ge:st.nx<=b53/\st.nx<=Wf/\st.nx<=We
 g53:s.m.g b53=some (.cells [I sm.page,I sm.at_,.bool false,vcp,vkp] 107 false)
 g68:s.m.g Wf=some (.cells [.bool first.leaf,cf,kf] 105 false)
 g69:s.m.g We=some (.cells [.bool second.leaf,cs,ks] 105 false)
 n1:IsNode s π.W (.agg [.bool first.leaf,cf,kf]) first
 n2:IsNode s π.W (.agg [.bool second.leaf,cs,ks]) second
 np:Sl s π.W vcp 4 (bG sm.n.cells)/\Sl s π.W vkp 1 (cF sm.n.kids)
 bes:uY G h sm rest left first second sep pf pn LL aE d
 nd:aE.Nodup
 size:first.size+second.size<=700
def QD:∀(m:Nat) (rest:List cV),rest.length=m->∀{st:St} {G:GM} {f:cV} {n:bg} {h:Nat} {x v:CV} {LL:List bt},Tg τ π st G->Bo G h f.page rest n LL->n.size<=640->rest.length+2<=G.cP->
 eZ st π.W x (rest.reverse++[f])->IsNode st π.W v n->rest.length<=16->R 52 [.ptr τ 0,x,v] st (Cx τ π G LL st):=by
 intro m
 induction m using Nat.strongRecOn with
 |_ m ih=>
  intro rest hm st G f n h x v LL ht hg hsz iw hst hv zR;have qD:=ht.RV;have u9:∀q,st.nx<=q->q∉π.W:=λq hq hh=>abg
  have Es:=hv;obtain⟨vc,vk,rfl,PU,M8⟩:=hv
  have qC:n.cells.length<=640:=by
   have:=eT n.leaf n.cells;rw[cc]at hsz;omega
  refine bN ?_;rw[w52];rw[bW,aV];refine⟨rfl,?_⟩;have k1:Kp [] st (St.new st (.cells [.bool n.leaf,vc,vk] 105 false)):=(Kp.refl [] st).new _;have g1:(St.new st (.cells [.bool n.leaf,vc,vk] 105 false)).m.g st.nx=some (.cells [.bool n.leaf,vc,vk] 105 false):=aw _ _;have n1:(St.new st (.cells [.bool n.leaf,vc,vk] 105 false)).nx=st.nx+1:=rfl;generalize St.new st (.cells [.bool n.leaf,vc,vk] 105 false)=s1 at*;have gF:=hst.mono (k1.mono rq);have xh:(rest.reverse++[f]).length=rest.length+1:=rq
  have e3:=λs=>by
   have:=yR (rest.length+1) pX pX s none
   rwa [aEL]at this
  obtain⟨NC,NB,c1,c2,jB⟩:=gF.row (i:=rest.length) rq;have hf:(rest.reverse++[f])[rest.length]'(by simp)=f:=rq
  rw[hf]at c1 c2 jB;have hlen:=λs=>hst.len s;rw[xh]at hlen;simp only[hlen,af,e3];refine jB _ ?_;refine oE c1.bD.2.1 c2.bD.2.1 ?_;have k3:Kp [] s1 (St.new s1 (.cells [I f.page,I f.at_,.bool f.n.leaf,NC,NB] 107 false)):=(Kp.refl [] s1).new _;have g3:(St.new s1 (.cells [I f.page,I f.at_,.bool f.n.leaf,NC,NB] 107 false)).m.g s1.nx=some (.cells [I f.page,I f.at_,.bool f.n.leaf,NC,NB] 107 false):=aw _ _;have n3:(St.new s1 (.cells [I f.page,I f.at_,.bool f.n.leaf,NC,NB] 107 false)).nx=s1.nx+1:=rfl;generalize St.new s1 (.cells [I f.page,I f.at_,.bool f.n.leaf,NC,NB] 107 false)=s3 at*;have kV:=k1.trans k3 rq;have qZ:=(k3.keep st.nx pX rq).trans g1;have st3:=gF.mono (k3.mono rq);have t3:=ht.still kV;have v3:=Es.mono (kV.mono rq);have e4:ai .eql (some .int) true (I ((rest.length+1:Nat):Int)) (.int .i64 1) s3=.ok (.bool (decide (rest.length=0))) s3:=Sb
  have e5:∀s,ai .neq (some .int) true (I 0) (.int .i64 0) s=.ok (.bool false) s:=λs=>rfl;simp only[af,e4,ag];have YN:∀s,Kp [] st s->bj .slice vc s=.ok (I n.cells.length) s:=λs hs=>(PU.mono (hs.mono rq)).len n.cells.length (bM _) pX s
  have Qd:∀s,Kp [] st s->(n.leaf=true\/n.cells≠[])->R 104 [.ptr τ 0,x,.agg [.bool n.leaf,vc,vk]] s λy s'=>Cx τ π G LL st y s':=by
   intro s hs ku;refine(abK (ht.still hs) hg ku hsz iw (hst.mono (hs.mono rq)) (Es.mono (hs.mono rq)) zR).mono ?_;rintro y s' ⟨rfl,k',G',t',to',qz⟩;exact⟨rfl,(hs.mono rq).trans k' adt,G',t',to',qz⟩
  obtain⟨lo,hi,Ll,Lr,L,ps,q,yk,lz,je,VY⟩:=hg.ctx;cases rest with
  |nil=>
   rw[aDy (show decide (([]:List cV).length=0)=true from rfl)];obtain⟨_,rfl,rfl,rfl,rfl,rfl⟩:=(show f.page=G.root/\lo=[]/\hi=none/\Ll=[]/\Lr=[]/\ps=[]from yk);have ez:∀s,ai .eql (some .int) true (I n.cells.length) (.int .i64 0) s=.ok (.bool (decide (n.cells.length=0))) s:=λs=>Sb
   simp only[fl,ah,af,aC,qZ,ar,aDx,aDo,az];simp only[aDV,aEs]at VY je;rw[aDG]at je;cases fY:n.leaf with
   |true=>
    rw[fY]at qZ Qd;simp only[aL,aDQ,jV,bp,ah,af,aC,qZ,ar,aDx,aDq,aDo,az,YN s3 kV,ez,aJ,ag,cN,aDJ,aDp,aDE,cH]
    by_cases h0:n.cells.length=0
    .rw[aDz h0,aDy rfl];refine t3.get' ?_;refine(sX t3.pg 0 (.inl rfl)).mono ?_;rintro _ s4 ⟨rfl,k4,p4⟩;have t4:=t3.of k4 p4;have ZF:=(k4.keep s1.nx pX (u9 _ pX)).trans g3;simp only[e5,af,ag,aDp,aDE,bA,ZF,ar,aDo,az];obtain⟨ty,g,hg4⟩:=t4.get;simp only[br,ah,af,aC,hg4,ar,aDx,aDo,az];refine(Df t4.pg (n:=f.page) hg.bS).mono ?_;rintro _ s5 ⟨rfl,k5,p5⟩
     have hL0:LL=[]:=by
      rw[<-VY];obtain⟨_,c⟩:n.cells=[]/\True:=⟨aDP.1 h0,adu⟩;have aeg:=lz.leaf;cases h with
      |zero=>
       obtain⟨_,_,Zb,_⟩:=lz;rw[aDP.1 h0]at Zb;exact Zb.1
      |succ h=>rw[fY]at aeg;cases aeg
     exact⟨⟨adu,adu,adu⟩,adu,rfl,(((kV.mono rq).trans k4 adt).trans k5 adt),_,t4.of k5 p5,⟨(tn (hg.ok.gO 0) hg.bS).ok,.inl ⟨rfl,hL0⟩⟩,rfl⟩
    .rw[aDr h0,aDv wI];rw[aR (n:=3) qZ rfl,af];exact Qd s3 kV (.inl rfl)
   |false=>
    rw[fY]at qZ Qd;simp only[aL,aDQ,jV,bp,cH,ah,af,aC,qZ,ar,aDx,aDq,aDo,az,YN s3 kV,ez,aJ,ag,cN,aDI,aDp,aDE]
    by_cases h0:n.cells.length=0
    .rw[aDz h0,aDy rfl];have hce:=aDP.1 h0;cases h with
     |zero=>have:=lz.leaf;rw[fY]at this;cases this
     |succ h=>
      obtain⟨_,vY⟩:=lz;have Bg:=vY.len;have hse:n.fh=[]:=by unfold bg.fh;rw[hce];rfl
      rw[hse]at vY Bg;obtain⟨kk,HF⟩:∃kk,n.kids=[kk]:=List.length_eq_one_iff.1 (by simpa using Bg);rw[HF,bZ.one]at vY;obtain⟨_,tN⟩:=vY;have hku:G.bS kk:=by obtain⟨nn,qq,Cc,_⟩:=tN;exact Cc.bS
      have YU:=M8.mono (kV.mono rq);rw[HF]at YU;obtain⟨ty,g,hg3⟩:=t3.get;have hix:∀K:CV->Prop,K (I kk)->Lim.idx 1 vk (I ((0:Nat):Int)) s3 K:=λK hK=>YU.idx (i:=0) rq K hK
      have anK:∃p,cQ 1 vk (.int .i64 0) s3=.ok p s3/\∀K:CV->Prop,K (I kk)->us (aB p s3) K:=by
       obtain⟨b,p,l,t,g,q1,q2,q3,q4,q5⟩:=(show Sl s3 π.W vk 1 ([[I kk]]:List (List CV)).flatten from YU).cellAt pX rq (i:=0) rq;refine⟨_,q1 s3,λK hK=>?_⟩;have:=q5 0 (I kk) rfl;rw[aEb]at this;rw[aC,q2,ar,this];exact hK
      obtain⟨p,Vr,Et⟩:=anK;simp only[bA,br,ah,af,aC,hg3,ar,aDx,aDo,az,Vr];refine Et _ ?_;refine(sX t3.pg kk (.inr hku)).mono ?_;rintro _ s6 ⟨rfl,k6,p6⟩;have t6:=t3.of k6 p6;have g36:=(k6.keep s1.nx pX (u9 _ pX)).trans g3;obtain⟨ty6,gg6,hg6⟩:=t6.get;simp only[e5,af,ag,aDp,aDE,hg6,g36,ar,aDo,az,aFw];refine(Df t6.pg (n:=f.page) hg.bS).mono ?_;rintro _ s7 ⟨rfl,k7,p7⟩;have hD:=tn (hg.ok.gO kk) hg.bS;refine⟨rfl,(((kV.mono rq).trans k6 adt).trans k7 adt),_,t6.of k7 p7,⟨hD.ok,.inr ⟨h,q,je.2,?_⟩⟩,rfl⟩;rw[<-VY];exact(show Sub G h kk [] none L q from tN).kept λz hz=>⟨λhu=>(hD.bS z).2 ⟨hu,λe=>je.1 (e▸hz)⟩,rfl⟩
    .rw[aDr h0,aDv wI];rw[aR (n:=3) qZ rfl,af];exact Qd s3 kV (.inr λe=>h0 (by rw[e];rfl))
  |cons sm fO=>
   rw[aDv (show¬decide ((sm::fO).length=0)=true by simp)];refine gj qZ ?_;refine(CT t3.fr (v3.dz rq) hg.MY pX).mono ?_;rintro _ s9 ⟨rfl,k9⟩;have RH:=kV.trans k9 rq;have n9:=k9.nx;have V9:=(k9.keep st.nx pX rq).trans qZ;have e6:ai .geq none true (I n.size) (.int .i64 128) s9=.ok (.bool (decide (128<=n.size))) s9:=by rw[ay,zw];congr 2;simp only[aDU];omega
   rw[e6,af,ag]
   by_cases Zx:128<=n.size
   .rw[aDz Zx,aDy rfl];refine gj V9 ?_;exact Qd s9 RH (yU hg.MY Zx)
   .rw[aDr Zx,aDv wI];have VN:=yk;obtain⟨_,_,_,_,_,_,_,_,_,_,Mb,Yd,anG,_⟩:=yk
    have adz:sm.n.cells.length<=512:=by
     have:=eT sm.n.leaf sm.n.cells;have:=Mb.size;rw[cc]at this;omega
    have Ye:=Mb.ok.jA;rw[Yd,aDv wI]at Ye;obtain⟨Je,_⟩:=aDD.1 anG
    have kW:2<=sm.n.kids.length:=by
     rcases Mb.full with h|h
     .rw[Yd]at h;cases h
     .have:=aFg.2 h;omega
    have st9:=hst.mono (RH.mono rq)
    have e7:ai .sub none true (I (((sm::fO).length+1:Nat):Int)) (.int .i64 2) s9=.ok (I fO.length) s9:=by
     rw[ay,dX,aDT,bB (by simp at zR;omega)];congr 2;omega
    obtain⟨pW,ng,d1,d2,Gd⟩:=st9.row (i:=fO.length) rq;have TP:((sm::fO).reverse++[f])[fO.length]'(by simp)=sm:=rq
    rw[TP,Yd]at Gd;rw[TP]at d1 d2;rw[e7,af];refine Gd _ ?_;refine oE d1.bD.2.1 d2.bD.2.1 ?_;have rm:Kp [] s9 (St.new s9 (.cells [I sm.page,I sm.at_,.bool false,pW,ng] 107 false)):=(Kp.refl [] s9).new _;have tk:(St.new s9 (.cells [I sm.page,I sm.at_,.bool false,pW,ng] 107 false)).m.g s9.nx=some (.cells [I sm.page,I sm.at_,.bool false,pW,ng] 107 false):=aw _ _;have MW:(St.new s9 (.cells [I sm.page,I sm.at_,.bool false,pW,ng] 107 false)).nx=s9.nx+1:=rfl;generalize St.new s9 (.cells [I sm.page,I sm.at_,.bool false,pW,ng] 107 false)=bY at*;have DT:=RH.trans rm rq;have aqn:=(rm.keep st.nx pX rq).trans V9;have ZT:=d2.mono (rm.mono rq);have d1':=d1.mono (rm.mono rq);have aee:=ZT.len sm.n.kids.length rq pX bY;simp only[fl,ah,af,aC,tk,ar,aDx,Nat.reduceAdd,aDq,aDo,az,gT sm.at_ pX];refine iN (λvs s=>bY=s/\∃beside:Nat,vs=[.ptr τ 0,x,.ptr st.nx 0,.ptr s9.nx 0,I sm.at_,I beside]/\((beside=sm.at_+1/\sm.at_+1<sm.n.kids.length)\/(sm.at_=beside+1/\sm.at_+1=sm.n.kids.length))) ?_ ?_
    .intro k' u7;have e8:ai .eql (some .int) false (I ((sm.at_+1:Nat):Int)) (I sm.n.kids.length) bY=.ok (.bool (decide (sm.at_+1=sm.n.kids.length))) bY:=by rw[ay,cz];congr 2;simp only[aDU];omega
     simp only[aee,af,e8,ag]
     by_cases Gr:sm.at_+1=sm.n.kids.length
     .rw[aDz Gr,aDy rfl,yR sm.at_ pX pX,af];exact u7 _ _ ⟨rfl,sm.at_-1,rfl,.inr ⟨pX,Gr⟩⟩
     .rw[aDr Gr,aDv wI];exact u7 _ _ ⟨rfl,sm.at_+1,rfl,.inl ⟨rfl,pX⟩⟩
    .rintro _ _ ⟨rfl,beside,rfl,Nc⟩
     have hB:∃(other:bg) (po left:Nat) (first second:bg) (sep:cn) (pf pn:Nat) (d:tE),nf G po other/\sm.n.kids[beside]?=some po/\uY G h sm fO left first second sep pf pn (Ll++(L++Lr)) (f.page::(q++ps)) d/\
      ((beside=sm.at_+1/\left=sm.at_/\first=n/\second=other)\/(sm.at_=beside+1/\left=beside/\first=other/\second=n)):=by
      rcases Nc with⟨e,hlt⟩|⟨e,hlt⟩
      .obtain⟨other,pn,sep,d,x1,x2⟩:=Lj VN hg.bS hg.MY lz hlt;exact⟨other,pn,_,_,_,sep,_,pn,d,x1,by rw[e];exact x2.Tc,x2,.inl ⟨e,rfl,rfl,rfl⟩⟩
      .obtain⟨other,pf,sep,d,x1,x2⟩:=Ob VN hg.bS hg.MY lz e;exact⟨other,pf,_,_,_,sep,pf,_,d,x1,x2.O0,x2,.inr ⟨e,rfl,rfl,rfl⟩⟩
     obtain⟨other,po,left,first,second,sep,pf,pn,d,qY,hkb,Zk,adC⟩:=hB;rw[VY]at Zk;obtain⟨si,hbe⟩:=aDD.1 hkb;simp only[aH,aI,ah,af,aC,tk,ar,aDx,Nat.reduceAdd,aDq,aDo,az];refine ZT.idx (i:=beside) (by simpa using si) _ ?_;have e9:(cF sm.n.kids)[beside]'(by simpa using si)=I po:=by simp[cF,hbe]
     rw[e9];refine(yP (ht.still DT) qY).mono ?_;rintro _ fj ⟨xo,rfl,zK,hxo⟩;have n14:=zK.nx;have VW:∀b∈π.W,b<bY.nx:=λb hb=>by have:=qD b hb;have:=DT.nx;omega
     obtain⟨EF,EE,rfl,o1,o2⟩:=hxo π.W VW;simp only[aD,aG,af];refine sZ o1.bD.2.1 o2.bD.2.1 ?_;have FY:Kp [] fj (St.new fj (.cells [.bool other.leaf,EF,EE] 105 false)):=(Kp.refl [] fj).new _;have Qh:(St.new fj (.cells [.bool other.leaf,EF,EE] 105 false)).m.g fj.nx=some (.cells [.bool other.leaf,EF,EE] 105 false):=aw _ _;have n16:(St.new fj (.cells [.bool other.leaf,EF,EE] 105 false)).nx=fj.nx+1:=rfl;generalize St.new fj (.cells [.bool other.leaf,EF,EE] 105 false)=cO at*;have qX:=zK.trans FY rq;have agn:=(qX.keep st.nx (by have:=DT.nx;omega) rq).trans aqn;have V7:=(qX.keep s9.nx pX rq).trans tk;rw[e5,af,ag,aDv wI,bA];have yy:(St.new cO (.cells [.bool false,.ae,.ae] 105 false)).nx=cO.nx+1:=rfl;have kA:Kp [] cO (St.new (St.new cO (.cells [.bool false,.ae,.ae] 105 false)) (.cells [.bool false,.ae,.ae] 105 false)):=((Kp.refl [] cO).new _).new _;have gA1:(St.new (St.new cO (.cells [.bool false,.ae,.ae] 105 false)) (.cells [.bool false,.ae,.ae] 105 false)).m.g cO.nx=some (.cells [.bool false,.ae,.ae] 105 false):=(ba _ _ _ rq).trans (aw _ _);have gA2:(St.new (St.new cO (.cells [.bool false,.ae,.ae] 105 false)) (.cells [.bool false,.ae,.ae] 105 false)).m.g (cO.nx+1)=some (.cells [.bool false,.ae,.ae] 105 false):=aw (St.new cO (.cells [.bool false,.ae,.ae] 105 false)) _;have nA:(St.new (St.new cO (.cells [.bool false,.ae,.ae] 105 false)) (.cells [.bool false,.ae,.ae] 105 false)).nx=cO.nx+2:=rfl;rw[yy];generalize St.new (St.new cO (.cells [.bool false,.ae,.ae] 105 false)) (.cells [.bool false,.ae,.ae] 105 false)=sA at*;have aes:=DT.trans qX rq;have asN:=aes.nx;have I2:∀(y:List CV) a b c,y.length=3->bo y 0 [a,b,c]=[a,b,c]:=λy a b c hy=>dZ _ _ (by simp[hy]);have g1A:=(kA.keep st.nx pX rq).trans agn;have agi:=(kA.keep fj.nx pX rq).trans Qh;have aAs:=(kA.keep s9.nx abz rq).trans V7
     obtain⟨q1,q2,q3⟩:=PU.bD;obtain⟨q4,q5,q6⟩:=M8.bD;obtain⟨q7,q8,q9⟩:=o1.bD;obtain⟨q10,q11,q12⟩:=o2.bD;rw[aR (n:=3) g1A rfl,af,aR (n:=3) agi rfl,af,jJ gA1,aT,jJ gA2,aT,aF,gA1,aS,aV,I2 _ _ _ _ rfl];refine⟨⟨rfl,by simp[q2,q5],rq⟩,?_⟩;rw[aF,al _ _ _ _ pX,gA2,aS,aV,I2 _ _ _ _ rfl];refine⟨⟨rfl,by simp[q8,q11],rq⟩,?_⟩;have aqc:(St.set sA cO.nx (.cells [.bool n.leaf,vc,vk] 105 false)).m.g fj.nx=_:=(al _ _ _ _ pX).trans agi;rw[aR (n:=3) aqc rfl,af];refine⟨⟨adu,⟨rfl,adu⟩,adu,adu,adu⟩,adu,?_⟩;have kC:Kp [] cO (St.set (St.set sA cO.nx (.cells [.bool n.leaf,vc,vk] 105 false)) (cO.nx+1) (.cells [.bool other.leaf,EF,EE] 105 false)):=(kA.set _ (.inr (aDt _)) pX).set _ (.inr pX) AI;have gC1:(St.set (St.set sA cO.nx (.cells [.bool n.leaf,vc,vk] 105 false)) (cO.nx+1) (.cells [.bool other.leaf,EF,EE] 105 false)).m.g cO.nx=some (.cells [.bool n.leaf,vc,vk] 105 false):=(al _ _ _ _ pX).trans (aq _ _ _);have gC2:(St.set (St.set sA cO.nx (.cells [.bool n.leaf,vc,vk] 105 false)) (cO.nx+1) (.cells [.bool other.leaf,EF,EE] 105 false)).m.g (cO.nx+1)=some (.cells [.bool other.leaf,EF,EE] 105 false):=aq _ _ _;have nC:(St.set (St.set sA cO.nx (.cells [.bool n.leaf,vc,vk] 105 false)) (cO.nx+1) (.cells [.bool other.leaf,EF,EE] 105 false)).nx=cO.nx+2:=nA;generalize St.set (St.set sA cO.nx (.cells [.bool n.leaf,vc,vk] 105 false)) (cO.nx+1) (.cells [.bool other.leaf,EF,EE] 105 false)=jm at*;have TI:=aes.trans kC rq;have zL:=qX.trans kC rq;have agm:=(kC.keep st.nx pX rq).trans agn;have agj:=(kC.keep fj.nx pX rq).trans Qh;have V6:=(kC.keep s9.nx abz rq).trans V7;have alv:=Es.mono (TI.mono rq);have alu:IsNode jm π.W (.agg [.bool other.leaf,EF,EE]) other:=⟨EF,EE,rfl,(o1.mono (FY.mono rq)).mono (kC.mono rq),(o2.mono (FY.mono rq)).mono (kC.mono rq)⟩
     have hos:=qY.size;refine iN (λvs s=>∃Wf We cf kf cs ks,UH τ π st G h sm fO LL x s9.nx vs s left first second sep pf pn (f.page::(q++ps)) d Wf We cf kf cs ks pW ng) ?_ ?_
     .intro k72 aeo;rw[dq,af,ag];rcases adC with⟨x1,rfl,rfl,rfl⟩|⟨x1,rfl,rfl,rfl⟩
      .rw[aDr pX,aDv wI];exact aeo _ _ ⟨_,_,vc,vk,EF,EE,rfl,TI,⟨pX,pX,pX⟩,⟨pX,pX,pX⟩,V6,gC1,gC2,alv,alu,⟨d1'.mono (zL.mono rq),ZT.mono (zL.mono rq)⟩,Zk,je,pX⟩
      .rw[aDz pX,aDy rfl,bA,aR (n:=3) agj rfl,af,aR (n:=3) agm rfl,af,aF,gC1,aS,aV,I2 _ _ _ _ rfl];refine⟨⟨rfl,by simp[q8,q11],rq⟩,?_⟩;rw[aF,al _ _ _ _ pX,gC2,aS,aV,I2 _ _ _ _ rfl];refine⟨⟨rfl,by simp[q2,q5],rq⟩,?_⟩;have g1B:(St.set jm cO.nx (.cells [.bool first.leaf,EF,EE] 105 false)).m.g st.nx=_:=(al _ _ _ _ pX).trans agm;rw[aR (n:=3) g1B rfl,af];refine⟨⟨adu,⟨rfl,adu⟩,adu⟩,adu,?_⟩;have kE:Kp [cO.nx,cO.nx+1] jm (St.set (St.set jm cO.nx (.cells [.bool first.leaf,EF,EE] 105 false)) (cO.nx+1) (.cells [.bool second.leaf,vc,vk] 105 false)):=((Kp.refl _ jm).set (p:=cO.nx) _ (.inl rq) pX).set (p:=cO.nx+1) _ (.inl rq) AI;have nn2:=(Es.dz (Y:=π.W++[cO.nx,cO.nx+1]) (by intro b hb;simp at hb;rcases hb with h|h|h;exact .inl h;right;omega;right;omega)).mono (TI.mono rq);have oo1:=(((hxo (π.W++[]) (by simpa using VW)).dz (Y:=π.W++[cO.nx,cO.nx+1]) (by intro b hb;simp at hb⊢;rcases hb with h|h|h;exact .inl h;right;omega;right;omega)).mono (FY.mono rq)).mono (kC.mono rq);have TY:∀b∈[cO.nx,cO.nx+1],b∈π.W++[cO.nx,cO.nx+1]\/jm.nx<=b:=λb hb=>.inl (by simp at hb⊢;rcases hb with h|h<;>simp[h]);refine aeo _ _ ⟨cO.nx,cO.nx+1,EF,EE,vc,vk,rfl,(TI.mono rq).trans kE (by intro b hb;simp at hb;right;omega),⟨AI,AI,AI⟩,⟨pX,pX,pX⟩,(al _ _ _ _ abz).trans ((al _ _ _ _ abz).trans V6),(al _ _ _ _ pX).trans (aq _ _ _),aq _ _ _,(oo1.mono (kE.mono TY)).dz (by intro b hb;simp[hb]),(nn2.mono (kE.mono TY)).dz (by intro b hb;simp[hb]),⟨?_,?_⟩,Zk,je,pX⟩
       .have:=((d1'.dz (Y:=π.W++[cO.nx,cO.nx+1]) (by intro b hb;simp at hb;rcases hb with h|h|h;exact .inl h;right;have:=qX.nx;omega;right;have:=qX.nx;omega)).mono (zL.mono rq)).mono (kE.mono TY);exact this.dz (by intro b hb;simp[hb])
       .have:=((ZT.dz (Y:=π.W++[cO.nx,cO.nx+1]) (by intro b hb;simp at hb;rcases hb with h|h|h;exact .inl h;right;have:=qX.nx;omega;right;have:=qX.nx;omega)).mono (zL.mono rq)).mono (kE.mono TY);exact this.dz (by intro b hb;simp[hb])
     .rintro vs fD ⟨Wf,We,cf,kf,cs,ks,⟨rfl,K21,⟨l53,l68,l69⟩,⟨w53,w68,w69⟩,g53,g68,g69,N1,N2,⟨p1,p2⟩,B,-,amh⟩⟩;have asq:=B;obtain⟨aci,Gq,xV,cL,hcL,hcK⟩:=uT B;have aBp:=K21.nx;simp only[aH,aI]
      have I9:∀K:CV->Prop,K (.agg [.bool false,pW,ng])->Nf 3 2 (.ptr s9.nx 0) fD K:=λK hK=>by
       unfold Nf;rw[ah,af,gM (n:=3) g53 rq,af];exact hK
      refine I9 _ ?_;refine sZ p1.bD.2.1 p2.bD.2.1 ?_;have M3:Kp [] fD (St.new fD (.cells [.bool false,pW,ng] 105 false)):=(Kp.refl [] fD).new _;have ZH:(St.new fD (.cells [.bool false,pW,ng] 105 false)).m.g fD.nx=some (.cells [.bool false,pW,ng] 105 false):=aw _ _;have n22:(St.new fD (.cells [.bool false,pW,ng] 105 false)).nx=fD.nx+1:=rfl;generalize St.new fD (.cells [.bool false,pW,ng] 105 false)=yf at*;rw[bA,ah,af,aC,ZH,ar];simp only[aDx,aDq,aDo,az];refine(wo ((p1.dz (Y:=[]) rq).mono (M3.mono rq)) (eN _) aaJ).mono ?_;rintro xc qR ⟨F1,A8,o1,Mv,_⟩;have n23:=A8.nx;have Jk:=(A8.keep fD.nx pX rq).trans ZH;rw[ah,af,aC,Jk,ar];simp only[aDx,aDq,aDo,az];have U8:=M3.trans A8 rq;refine(Ao ((p2.dz (Y:=[]) rq).mono (U8.mono rq)) (jx _) (by rw[pJ];omega)).mono ?_;rintro xk iS ⟨F2,kc2,o2,fF2,_⟩;have n24:=kc2.nx;have RP:=(kc2.keep fD.nx pX rq).trans Jk;have acX:=U8.trans kc2 rq;obtain⟨Xw,SV⟩:=o1.ck;obtain⟨od1,od2⟩:=o2.ck;rw[ah,af,aF,RP,aS,SV];refine⟨⟨rfl,by simp[Xw],rq⟩,?_⟩;rw[ah,af,aF,aq,aS,od2];refine⟨⟨rfl,by simp[od1],by simp[bo]⟩,?_⟩;rw[aC,ZH,ar];refine⟨⟨adu,⟨rfl,adu⟩,adu⟩,adu,?_⟩;have U7:Kp [] fD (St.set (St.set iS fD.nx (.cells (bo [.bool false,pW,ng] (0+1) [xc]) 105 false)) fD.nx (.cells (bo (bo [.bool false,pW,ng] (0+1) [xc]) (0+2) [xk]) 105 false)):=(acX.set _ (.inr (aDt _)) pX).set _ (.inr (aDt _)) AI;have g25:(St.set (St.set iS fD.nx (.cells (bo [.bool false,pW,ng] (0+1) [xc]) 105 false)) fD.nx (.cells (bo (bo [.bool false,pW,ng] (0+1) [xc]) (0+2) [xk]) 105 false)).m.g fD.nx=some (.cells [.bool false,xc,xk] 105 false):=aq _ _ _;have n25:(St.set (St.set iS fD.nx (.cells (bo [.bool false,pW,ng] (0+1) [xc]) 105 false)) fD.nx (.cells (bo (bo [.bool false,pW,ng] (0+1) [xc]) (0+2) [xk]) 105 false)).nx=iS.nx:=rfl;have ue:∀b∈F1,fD.nx<b/\b<qR.nx:=λb hb=>adm
      have tb:=fF2;have acE:Own (St.set (St.set iS fD.nx (.cells (bo [.bool false,pW,ng] (0+1) [xc]) 105 false)) fD.nx (.cells (bo (bo [.bool false,pW,ng] (0+1) [xc]) (0+2) [xk]) 105 false)) xc 4 109 (bG sm.n.cells) F1:=(o1.keep kc2 λb hb=>⟨(ue b hb).2,rq⟩).mono λb hb=>by have:=ue b hb;rw[al _ _ _ _ pX,al _ _ _ _ pX]
      have ali:Own (St.set (St.set iS fD.nx (.cells (bo [.bool false,pW,ng] (0+1) [xc]) 105 false)) fD.nx (.cells (bo (bo [.bool false,pW,ng] (0+1) [xc]) (0+2) [xk]) 105 false)) xk 1 3 (cF sm.n.kids) F2:=o2.mono λb hb=>by have:=tb b hb;rw[al _ _ _ _ pX,al _ _ _ _ pX]
      generalize St.set (St.set iS fD.nx (.cells (bo [.bool false,pW,ng] (0+1) [xc]) 105 false)) fD.nx (.cells (bo (bo [.bool false,pW,ng] (0+1) [xc]) (0+2) [xk]) 105 false)=ln at*;have k26:Kp [] ln (St.new ln (.cells [.bool false,.ae,.ae] 105 false)):=(Kp.refl [] ln).new _;have agk:(St.new ln (.cells [.bool false,.ae,.ae] 105 false)).m.g ln.nx=some (.cells [.bool false,.ae,.ae] 105 false):=aw _ _;have n26:(St.new ln (.cells [.bool false,.ae,.ae] 105 false)).nx=ln.nx+1:=rfl;rw[bA];generalize St.new ln (.cells [.bool false,.ae,.ae] 105 false)=za at*;have BW:=U7.trans k26 rq;have ZG:=(k26.keep fD.nx pX rq).trans g25;have agh:=(BW.keep Wf pX rq).trans g68;have agf:=(BW.keep We pX rq).trans g69;have acf:Sl za [] xc 4 (sm.n.cells.map aZ).flatten:=(acE.keep k26 λb hb=>⟨R8,rq⟩).sl λb hb=>⟨rq,R8⟩;have YL:left<(sm.n.cells.map aZ).length:=by simpa using Gq
      obtain⟨cb,cp,cl,ct,cg,q1',q2',q3',q4',q5'⟩:=acf.cellAt pX (fM _) (i:=left) YL
      have aoB:sm.n.cells[left]=cL:=by
       obtain⟨_,h⟩:=aDD.1 hcL;exact h
      have Gu:cl[cp]?=some (.str sep):=by
       have:=q5' 0 (.str sep) (by simp[aoB,aZ,hcK])
       rwa [aEb]at this
      refine gj agh ?_;simp only[af,aC,ZG,ar,aDx,aDq,aDo,az,q1',ah,q2',aEb,Gu];refine gj agf ?_;have KB:first.cells.length<=700:=by have:=eT first.leaf first.cells;have:=amh;rw[cc]at this;omega
      have HH:second.cells.length<=700:=by
       have:=eT second.leaf second.cells;have h3:=cc second;omega
      have aoL:first.kids.length<=1001:=by rw[B.ok1.jA];split<;>omega
      have aoK:second.kids.length<=1001:=by rw[B.ok2.jA];split<;>omega
      have aqr:=BW.fresh (K21.fresh ht.fr);obtain⟨J1,J2,J3⟩:=B.c1.join B.c2 B.ok1 B.ok2 aci;refine(UF aqr ((N1.dz rq).mono BW) ((N2.dz rq).mono BW) pX pX aoL aoK).mono ?_;rintro xw tL ⟨XS,hxw⟩;have n28:=XS.nx;have api:=K21.trans BW rq;have aty:=api.nx;obtain⟨cw,kw,rfl,w1,w2⟩:=hxw (π.W++[]) (by intro b hb;simp at hb;have:=qD b hb;omega);have V8:=(XS.keep ln.nx pX rq).trans agk;have anY:=(XS.keep fD.nx pX rq).trans ZG;rw[jJ V8,aT,aF,V8,aS,aV,I2 _ _ _ _ rfl];refine⟨⟨rfl,by simp[w1.bD.2.1,w2.bD.2.1],rq⟩,?_⟩;rw[jJ agk,aT];refine⟨⟨adu,adu,adu,adu,⟨rfl,adu⟩,adu⟩,adu,?_⟩;have O5:Kp [] ln (St.set tL ln.nx (.cells [.bool (dB first sep second).leaf,cw,kw] 105 false)):=(k26.trans XS rq).set _ (.inr (aDt _)) pX;have g30:(St.set tL ln.nx (.cells [.bool (dB first sep second).leaf,cw,kw] 105 false)).m.g ln.nx=some (.cells [.bool (dB first sep second).leaf,cw,kw] 105 false):=aq _ _ _;have apB:(St.set tL ln.nx (.cells [.bool (dB first sep second).leaf,cw,kw] 105 false)).m.g fD.nx=some (.cells [.bool false,xc,xk] 105 false):=(al _ _ _ _ pX).trans anY;have n30:(St.set tL ln.nx (.cells [.bool (dB first sep second).leaf,cw,kw] 105 false)).nx=tL.nx:=rfl
      have acG:IsNode (St.set tL ln.nx (.cells [.bool (dB first sep second).leaf,cw,kw] 105 false)) (π.W++[ln.nx]) (.agg [.bool (dB first sep second).leaf,cw,kw]) (dB first sep second):=by
       obtain⟨cw2,kw2,e,w3,w4⟩:=hxw (π.W++[ln.nx]) (by intro b hb;simp at hb;rcases hb with h|h;have:=qD b h;omega;omega);simp only[CV.agg.injEq,aEX,and_true,aFw]at e;obtain⟨rfl,rfl⟩:=e;have kk:Kp [ln.nx] tL (St.set tL ln.nx (.cells [.bool (dB first sep second).leaf,cw,kw] 105 false)):=(Kp.refl _ tL).set _ (.inl rq) pX;exact⟨cw,kw,rfl,w3.mono (kk.mono (by intro b hb;left;simp at hb⊢;exact .inr hb)),w4.mono (kk.mono (by intro b hb;left;simp at hb⊢;exact .inr hb))⟩
      generalize St.set tL ln.nx (.cells [.bool (dB first sep second).leaf,cw,kw] 105 false)=s30 at*;have acW:=U7.trans O5 rq;have afD:=K21.trans acW rq;have alo:=acE.keep O5 λb hb=>⟨R8,rq⟩;have alh:=ali.keep O5 λb hb=>⟨R7,rq⟩;refine gj g30 ?_
      have hjc:(dB first sep second).cells.length<=1000:=by
       have:=eT (dB first sep second).leaf (dB first sep second).cells;have h3:=cc (dB first sep second);omega
      have aqq:=afD.fresh ht.fr;refine(CT aqq (acG.dz rq) J2 hjc).mono ?_;rintro _ Ib ⟨rfl,XR⟩;have n31:=XR.nx;have GI:=afD.trans XR rq;have g31:=(XR.keep ln.nx pX rq).trans g30;have Zy:=(XR.keep fD.nx pX rq).trans apB;have acD:=alo.keep XR λb hb=>⟨R8,rq⟩;have Xx:=alh.keep XR λb hb=>⟨R7,rq⟩;have acF:=acG.mono (XR.mono rq);have t31:=ht.still GI;have avS:=hst.mono (GI.mono rq);have aqy:ai .leq none true (I (dB first sep second).size) (.int .i64 512) Ib=.ok (.bool (decide ((dB first sep second).size<=512))) Ib:=aao
      rw[aqy,af,ag]
      have xi:∀(i:Nat) (p:Nat),sm.n.kids[i]?=some p->∀s,Kp π.W Ib s->∃a,cQ 1 xk (I i) s=.ok a s/\∀K:CV->Prop,K (I p)->us (aB a s) K:=by
       intro i p hi s hs;obtain⟨Ew,hie⟩:=aDD.1 hi
       have lu:Sl s π.W xk 1 ((cF sm.n.kids).map λx=>[x]).flatten:=by
        have h2:=Xx.sl λb hb=>⟨u9 b R7,R7⟩;have e:((cF sm.n.kids).map λx=>[x]).flatten=cF sm.n.kids:=by simp[<-List.flatMap_def]
        rw[e];exact h2.mono hs
       obtain⟨b,p',l,t,g,a1,a2,a3,a4,a5⟩:=lu.cellAt pX rq (i:=i) (by simpa using Ew);refine⟨_,a1 s,λK hK=>?_⟩;have:=a5 0 (I p) (by simp[cF,hie]);rw[aEb]at this;rw[aC,a2,ar,this];exact hK
      by_cases DY:(dB first sep second).size<=512
      .rw[aDz DY,aDy rfl,bA];obtain⟨g_u,ZD,apT,apU⟩:=He B hg.ok je DY;have fk:∀b,st.nx<=b->b∉π.all/\b≠τ:=λb hb=>⟨λhh=>by have:=ht.pg.lt b hh;omega,λe=>abA⟩;obtain⟨pa1,P3,Zn⟩:=xi left pf B.O0 Ib (Kp.refl _ _);simp only[af,Zy,ar,aDq,aDo,az,P3];refine Zn _ ?_;refine gj g31 ?_;refine(ny t31 B.u1 (acF.dz rq) J2 DY).mono ?_;rintro _ Lo ⟨rfl,U5,t32⟩;have n32:=U5.nx;have afC:=GI.nx;have afV:=(U5.keep fD.nx pX (u9 _ pX)).trans Zy;obtain⟨pa2,Ez,Zm⟩:=xi (left+1) pn B.Tc Lo U5;obtain⟨avM,aAb,anW⟩:=t32.get;rw[e5,af,ag,aDv wI,bA,br,af];simp only[anW,ar,aDx,aDq,aDo,az,afV,gT left pX,af,ah,aC,Ez];refine⟨⟨adu,adu,adu,adu⟩,adu,?_⟩;refine Zm _ ?_;refine(Df t32.pg g_u).mono ?_;rintro _ Sz ⟨rfl,XQ,p33⟩;have n33:=XQ.nx;have t33:=t32.of XQ p33;have O4:=U5.trans XQ adt;have afU:=(XQ.keep fD.nx pX (u9 _ pX)).trans afV;have aln:=acD.keep O4 λb hb=>⟨R8,u9 b R8⟩;have alg:=Xx.keep O4 λb hb=>⟨R7,u9 b R7⟩;refine⟨⟨adu,adu,adu,adu⟩,adu,?_⟩;have agr:∀s,ai .add none true (I left) (.int .i64 2) s=.ok (I ((left+1+1:Nat):Int)) s:=λs=>by rw[ay,cI,bB pX];rfl
       rw[e5,af,ag,aDv wI,bA];simp only[ar,aDq,aDo,az,afU];refine(GV (n:=sm.n.cells.length) aln (bM _) pX (λb hb=>R8) (eN _) Gq).mono ?_;rintro ye s34 ⟨o34,k34,n34⟩;have afT:=(k34.keep fD.nx pX (λhh=>abh)).trans afU;have alf:=alg.keep k34 λb hb=>⟨R7,λhh=>by have:=ue b hh;have:=tb b hb;omega⟩;simp only[ar,aDq,aDo,az,afT,agr,af];refine(MA (n:=sm.n.kids.length) (i:=left+1) alf rq pX (λb hb=>R7) (jx _) pX).mono ?_;rintro tI Ol ⟨o35,M0,n35⟩;have apA:=(M0.keep fD.nx pX (λhh=>by have:=tb _ hh;omega)).trans afT
       have Oa:=(o34 (π.W++(fD.nx::F2)) (λb hb hh=>by
        have:=ue b hb;simp at hh;rcases hh with hh|hh|hh
        .exact u9 b pX hh
        .omega
        .have:=tb b hh;omega)).mono (M0.mono (by intro q hq;left;simp[hq]))
       have N0:Sl Ol (π.W++[fD.nx]) tI 1 ((cF sm.n.kids).take ((left+1)*1)++(cF sm.n.kids).drop ((left+1+1)*1)):=o35 _ λb hb hh=>by
        have:=tb b hb;simp at hh;rcases hh with hh|hh
        .exact u9 b pX hh
        .omega
       have ec:(bG sm.n.cells).take (left*4)++(bG sm.n.cells).drop ((left+1)*4)=bG (tM sm.n left).cells:=by
        rw[la _ _ pX,lb _ _ pX,<-gX];rfl
       have ek:(cF sm.n.kids).take ((left+1)*1)++(cF sm.n.kids).drop ((left+1+1)*1)=cF (tM sm.n left).kids:=by
        rw[aEQ,aEQ,uI,uJ,<-ns];rfl
       rw[ec]at Oa;rw[ek]at N0;obtain⟨z1,z2,z3⟩:=Oa.bD;obtain⟨z4,z5,z6⟩:=N0.bD;have ri:bo [.bool false,xc,xk] 1 [ye]=[.bool false,ye,xk]:=rfl;have ko:bo [.bool false,ye,xk] 2 [tI]=[.bool false,ye,tI]:=rfl;rw[aF,apA,aS,z3,ri];refine⟨⟨rfl,by simp[z2],rq⟩,?_⟩;rw[aF,aq,aS,z6,ko];refine⟨⟨rfl,by simp[z5],rq⟩,⟨adu,⟨adu,adu⟩,adu⟩,adu,?_⟩;have O2:Kp [fD.nx] Ol (St.set (St.set Ol fD.nx (.cells [.bool false,ye,xk] 105 false)) fD.nx (.cells [.bool false,ye,tI] 105 false)):=((Kp.refl _ Ol).set _ (.inl rq) pX).set _ (.inl rq) AI;have apz:(St.set (St.set Ol fD.nx (.cells [.bool false,ye,xk] 105 false)) fD.nx (.cells [.bool false,ye,tI] 105 false)).m.g fD.nx=some (.cells [.bool (tM sm.n left).leaf,ye,tI] 105 false):=aq _ _ _;have n37:(St.set (St.set Ol fD.nx (.cells [.bool false,ye,xk] 105 false)) fD.nx (.cells [.bool false,ye,tI] 105 false)).nx=Ol.nx:=rfl;generalize St.set (St.set Ol fD.nx (.cells [.bool false,ye,xk] 105 false)) fD.nx (.cells [.bool false,ye,tI] 105 false)=Sy at*
       have Xz:IsNode Sy π.W (.agg [.bool (tM sm.n left).leaf,ye,tI]) (tM sm.n left):=
        ⟨ye,tI,rfl,(Oa.mono (O2.mono (by intro q hq;left;simp at hq;simp[hq]))).dz (by intro q hq;left;simp[hq]),(N0.mono (O2.mono (by intro q hq;left;simp at hq;simp[hq]))).dz (by intro q hq;left;simp[hq])⟩
       have U4:Kp (F1++(F2++[fD.nx])) Sz Sy:=((k34.mono (by intro q hq;left;simp[hq])).trans M0 (by intro q hq;left;simp[hq])).trans O2 (by intro q hq;left;simp at hq;simp[hq])
       have jW:∀q∈F1++(F2++[fD.nx]),st.nx<=q:=by
        intro q hq;simp at hq;rcases hq with hq|hq|hq
        .have:=ue q hq;omega
        .have:=tb q hq;omega
        .omega
       have t37:=t33.vV U4 λb hb=>fk b (jW b hb);have aph:=(GI.mono rq).trans O4 adt;have afB:=aph.trans U4 λq hq=>.inr (jW q hq);have akD:=hst.mono afB;have ZN:∀s,ai .sub none true (I (((sm::fO).length+1:Nat):Int)) (.int .i64 1) s=.ok (I ((fO.length+1:Nat):Int)) s:=e3;obtain⟨Nq,M4,XZ⟩:=akD.hi (m:=fO.length+1) rq Sy
       have Qu:((sm::fO).reverse++[f]).take (fO.length+1)=fO.reverse++[sm]:=by
        rw[aEP rq];simp
       rw[Qu]at XZ;rw[bA,hlen,af,ZN,af,M4,af];refine gj apz ?_;simp only[aDT]at iw hm zR;refine(ih fO.length pX fO rfl t37 ZD pX pX XZ Xz pX).mono ?_;rintro _ s38 ⟨rfl,k38,G',t38,akw,qz⟩;exact⟨⟨adu,adu⟩,adu,rfl,afB.trans k38 adt,G',t38,akw,qz⟩
      .rw[aDr DY,aDv wI];have fk:∀b,st.nx<=b->b∉π.all/\b≠τ:=λb hb=>⟨λhh=>by have:=ht.pg.lt b hh;omega,λe=>abA⟩;obtain⟨i,Gx,H⟩:=QH J2 pX pX
       have PJ:cr (dB first sep second)<(dB first sep second).cells.length:=by
        have:=H.lt;unfold cr;cases fY:(dB first sep second).leaf with
        |false=>simp;omega
        |true=>
         rw[aDy rfl];have hA:=H.neA;rcases H.eqs with⟨_,e,_⟩|⟨h,_⟩
         .rw[e]at hA
          have:0<i:=by
           rcases Nat.eq_zero_or_pos i with h0|h0
           .exact absurd (by show(dB first sep second).cells.take i=[];rw[h0,aFj]) hA
           .exact h0
          omega
         .rw[fY]at h;cases h
       obtain⟨Oy,Xn,r_u,Xo⟩:=Eh B hg.ok je H;have Bb:(xt (dB first sep second)).2.1.length<=48:=by rw[H.key];exact(J2.cell _ (aDL ..)).key
       refine gj g31 ?_;have aqp:=GI.fresh ht.fr;have afC:=GI.nx;refine(Rl aqp (acF.dz rq) J2 pX PJ).mono ?_;rintro _ tK ⟨xa,xb,rfl,k39,hxa,hxb⟩;generalize aox:xt (dB first sep second)=cu at*;obtain⟨a,sp,b⟩:=cu;simp only at H hxa hxb Oy Xn r_u Xo Bb;have n39:=k39.nx;have VV:∀q∈π.W,q<Ib.nx:=λq hq=>by have:=qD q hq;omega
       obtain⟨ca,ka,rfl,ya1,ya2⟩:=hxa π.W VV;obtain⟨cb,kb,rfl,yb1,yb2⟩:=hxb π.W VV;have za2:=ya1.bD.2.1;have zb2:=ya2.bD.2.1;have zc2:=yb1.bD.2.1;have zd2:=yb2.bD.2.1;have yy:(St.new tK (.cells [.bool false,.ae,.ae] 105 false)).nx=tK.nx+1:=rfl;rw[aD,af,aG,aD,af,aG,aG,aD,af,cE,aT,cE,aT,yy];have kA:Kp [] tK (St.new (St.new tK (.cells [.bool false,.ae,.ae] 105 false)) (.cells [.bool false,.ae,.ae] 105 false)):=((Kp.refl [] tK).new _).new _;have gA1:(St.new (St.new tK (.cells [.bool false,.ae,.ae] 105 false)) (.cells [.bool false,.ae,.ae] 105 false)).m.g tK.nx=some (.cells [.bool false,.ae,.ae] 105 false):=(ba _ _ _ rq).trans (aw _ _);have gA2:(St.new (St.new tK (.cells [.bool false,.ae,.ae] 105 false)) (.cells [.bool false,.ae,.ae] 105 false)).m.g (tK.nx+1)=some (.cells [.bool false,.ae,.ae] 105 false):=aw (St.new tK (.cells [.bool false,.ae,.ae] 105 false)) _;have nA:(St.new (St.new tK (.cells [.bool false,.ae,.ae] 105 false)) (.cells [.bool false,.ae,.ae] 105 false)).nx=tK.nx+2:=rfl;generalize St.new (St.new tK (.cells [.bool false,.ae,.ae] 105 false)) (.cells [.bool false,.ae,.ae] 105 false)=Xh at*;rw[aF,gA1,aS,aV,I2 _ _ _ _ rfl];refine⟨⟨rfl,by simp[za2,zb2],rq⟩,?_⟩;rw[aF,al _ _ _ _ pX,gA2,aS,aV,I2 _ _ _ _ rfl];refine⟨⟨rfl,by simp[zc2,zd2],rq⟩,?_⟩;have kB:Kp [] tK (St.set (St.set Xh tK.nx (.cells [.bool a.leaf,ca,ka] 105 false)) (tK.nx+1) (.cells [.bool b.leaf,cb,kb] 105 false)):=(kA.set _ (.inr (aDt _)) pX).set _ (.inr pX) AI;have gB1:(St.set (St.set Xh tK.nx (.cells [.bool a.leaf,ca,ka] 105 false)) (tK.nx+1) (.cells [.bool b.leaf,cb,kb] 105 false)).m.g tK.nx=some (.cells [.bool a.leaf,ca,ka] 105 false):=(al _ _ _ _ pX).trans (aq _ _ _);have gB2:(St.set (St.set Xh tK.nx (.cells [.bool a.leaf,ca,ka] 105 false)) (tK.nx+1) (.cells [.bool b.leaf,cb,kb] 105 false)).m.g (tK.nx+1)=some (.cells [.bool b.leaf,cb,kb] 105 false):=aq _ _ _
       have nB:(St.set (St.set Xh tK.nx (.cells [.bool a.leaf,ca,ka] 105 false)) (tK.nx+1) (.cells [.bool b.leaf,cb,kb] 105 false)).nx=tK.nx+2:=nA;generalize St.set (St.set Xh tK.nx (.cells [.bool a.leaf,ca,ka] 105 false)) (tK.nx+1) (.cells [.bool b.leaf,cb,kb] 105 false)=Ru at*;have Ke:=k39.trans kB rq;have afA:=GI.trans Ke rq;have t43:=ht.still afA;have afS:=(Ke.keep fD.nx pX rq).trans Zy;have alA:IsNode Ru π.W (.agg [.bool a.leaf,ca,ka]) a:=⟨ca,ka,rfl,ya1.mono (kB.mono rq),ya2.mono (kB.mono rq)⟩;have aly:IsNode Ru π.W (.agg [.bool b.leaf,cb,kb]) b:=⟨cb,kb,rfl,yb1.mono (kB.mono rq),yb2.mono (kB.mono rq)⟩;obtain⟨pa1,P3,Zn⟩:=xi left pf B.O0 Ru (Ke.mono rq);simp only[bA,af,afS,ar,aDq,aDo,az,P3];refine Zn _ ?_;refine gj gB1 ?_;refine(ny t43 B.u1 (alA.dz rq) H.Xv H.szA).mono ?_;rintro _ Oj ⟨rfl,k44,t44⟩;have n44:=k44.nx;have atx:=afA.nx;have afR:=(k44.keep fD.nx pX (u9 _ pX)).trans afS;have apV:=(k44.keep (tK.nx+1) pX (u9 _ pX)).trans gB2;refine⟨⟨adu,adu,adu,adu⟩,adu,?_⟩;have U6:=(Ke.mono rq).trans k44 adt;obtain⟨pa2,Ez,Zm⟩:=xi (left+1) pn B.Tc Oj U6;simp only[e5,ag,aDp,aDE,af,afR,ar,aDq,aDo,az,gT left pX,Ez];refine Zm _ ?_;refine gj apV ?_;refine(ny t44 r_u ((aly.mono k44).dz rq) H.okB H.szB).mono ?_;rintro _ Ep ⟨rfl,Ti,t45⟩;have n45:=Ti.nx;have afQ:=(Ti.keep fD.nx pX (u9 _ pX)).trans afR;have O3:=U6.trans Ti adt;have alm:=acD.keep O3 λb hb=>⟨R8,u9 b R8⟩;have ale:=Xx.keep O3 λb hb=>⟨R7,u9 b R7⟩;refine⟨⟨adu,adu,adu,adu⟩,adu,?_⟩;have mR:bu [.str [],.str [],.int .i64 0,.int .i64 0] [(0,1,.str sp)] Ep=.ok (.agg (aZ (fN sp))) Ep:=rfl;simp only[e5,ag,aDp,aDE,af,afQ,ar,aDq,aDo,az,mR];obtain⟨bc,rfl,wa,apN⟩:=ma alm pX (bM _) pX
       have hbc:=ue bc (by simp[wa])
       have hix:cQ 4 (.slice bc 0 sm.n.cells.length sm.n.cells.length 4) (I left) Ep=.ok (.ptr bc (left*4)) Ep:=by
        have:=fU (size:=4) (off:=0) (cap:=sm.n.cells.length) (grow:=4) Gq (.inr (aDt _)) Ep (b:=bc)
        rwa [aDx]at this
       have Yx:bo (bG sm.n.cells) (left*4) (aZ (fN sp))=bG (jr sm.n left sp).cells:=by
        unfold bG;rw[xm (fM _) _ (by simpa using Gq) _ rfl];unfold jr;rw[aFF,aDy (by simpa using Gq)];simp[aFc,aEN]
       unfold Ga;rw[hix,af,aF,apN,aS,aV,Yx];refine⟨⟨rfl,rfl,aaJ⟩,?_⟩;have k46:Kp [bc] Ep (St.set Ep bc (.cells (bG (jr sm.n left sp).cells) 109 true)):=(Kp.refl _ Ep).set _ (.inl rq) pX;have apM:(St.set Ep bc (.cells (bG (jr sm.n left sp).cells) 109 true)).m.g bc=some (.cells (bG (jr sm.n left sp).cells) 109 true):=aq _ _ _;have n46:(St.set Ep bc (.cells (bG (jr sm.n left sp).cells) 109 true)).nx=Ep.nx:=rfl;generalize St.set Ep bc (.cells (bG (jr sm.n left sp).cells) 109 true)=Sx at*;have apy:Sx.m.g fD.nx=some (.cells [.bool (jr sm.n left sp).leaf,.slice bc 0 sm.n.cells.length sm.n.cells.length 4,xk] 105 false):=(k46.keep fD.nx pX AI).trans afQ;have ZO:(jr sm.n left sp).cells.length=sm.n.cells.length:=by unfold jr;simp;omega
       have ald:=ale.keep k46 λb hb=>⟨R7,by have:=tb b hb;simp;omega⟩
       have Xy:IsNode Sx π.W (.agg [.bool (jr sm.n left sp).leaf,.slice bc 0 sm.n.cells.length sm.n.cells.length 4,xk]) (jr sm.n left sp):=
        ⟨_,_,rfl,.inr ⟨bc,0,_,_,4,rfl,by rw[bM,ZO],⟨aDt _,.inr rfl⟩,.inr ⟨u9 _ pX,pX,_,_,_,apM,acL,by rw[aDX,aDA acL]⟩⟩,ald.sl λb hb=>⟨u9 b R7,R7⟩⟩
       have t46:=t45.vV k46 λb hb=>fk b (by simp at hb;omega);have apg:=(GI.mono rq).trans O3 adt;have afz:=apg.trans k46 λq hq=>.inr (by simp at hq;omega);have akC:=hst.mono afz;have ZN:∀s,ai .sub none true (I (((sm::fO).length+1:Nat):Int)) (.int .i64 1) s=.ok (I ((fO.length+1:Nat):Int)) s:=e3;obtain⟨Nq,M4,XZ⟩:=akC.hi (m:=fO.length+1) rq Sx
       have Qu:((sm::fO).reverse++[f]).take (fO.length+1)=fO.reverse++[sm]:=by
        rw[aEP rq];simp
       rw[Qu]at XZ;simp only[hlen,af,ZN,M4];refine gj apy ?_;simp only[aDT]at iw hm zR;refine(ih fO.length pX fO rfl t46 Oy pX pX XZ Xy pX).mono ?_;rintro _ s47 ⟨rfl,k47,G',t47,akv,qz⟩;exact⟨⟨adu,adu⟩,adu,rfl,afz.trans k47 adt,G',t47,akv,qz⟩
def KI {rest:List cV}{f:cV}{n:bg}{h:Nat}{x v:CV}{LL:List bt}(ht:Tg τ π st G)(hg:Bo G h f.page rest n LL)(hsz:n.size<=640)(iw:rest.length+2<=G.cP)
 (hst:eZ st π.W x (rest.reverse++[f])) (hv:IsNode st π.W v n) (zR:rest.length<=16):R 52 [.ptr τ 0,x,v] st (Cx τ π G LL st):=QD rest.length rest rfl ht hg hsz iw hst hv zR
end
