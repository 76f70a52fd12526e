import Derived.Test.YtomffjeofpafnaaGreatDoorBtB
namespace Lim
open Go
noncomputable section
set_option linter.defProp false
set_option maxRecDepth 100000
section
variable {τ:Nat} {π:PI} {st st':St} {G:GM}
def zI {n:bp}(h:n.ok)(hs:128<=n.size):n.leaf=true\/n.cells≠[]:=by
 by_cases hc:n.cells=[]
 .cases fL:n.leaf with
  |true=>exact .inl rfl
  |false=>
   exfalso;have hk:=h.jw;rw[fL,aET u7,hc]at hk;have h2:=qf h.CK;rw[ck,fL,hc]at hs;have h3:(uv ([]:List dh).length).length=1:=eM uG;simp only[aEM,aFa]at hs;simp only[aGu]at hk;rw[hk]at h2;have h4:(cT false []).length=0:=rfl;omega
 .exact .inr hc
structure Wm (τ:Nat)(π:PI)(st:St)(G:GM)(h:Nat)(sm:cK)(rest:List cK)(LL:List bq)(x:CV)(b53:Nat)(vs:List CV)(s:St)(left:Nat)(first second:bp)(sep:cn)(pf pn:Nat)(aH:List Nat)(d:uf)(X8 X7:Nat)(cf kf cs ks vcp vkp:CV):Prop where
 vs:vs=[.ptr τ 0,x,.ptr b53 0,.ptr X8 0,.ptr X7 0,I left]
 kp:Kp [] st s
 lt:b53<s.nx/\X8<s.nx/\X7<s.nx
 ge:st.nx<=b53/\st.nx<=X8/\st.nx<=X7
 g53:s.m.g b53=some (.cells [I sm.page,I sm.at_,.bool false,vcp,vkp] 107 false)
 g68:s.m.g X8=some (.cells [.bool first.leaf,cf,kf] 105 false)
 g69:s.m.g X7=some (.cells [.bool second.leaf,cs,ks] 105 false)
 n1:IsNode s π.W (.agg [.bool first.leaf,cf,kf]) first
 n2:IsNode s π.W (.agg [.bool second.leaf,cs,ks]) second
 np:Sl s π.W vcp 4 (bC sm.n.cells)/\Sl s π.W vkp 1 (cJ sm.n.kids)
 bes:vM G h sm rest left first second sep pf pn LL aH d
 nd:aH.Nodup
 size:first.size+second.size<=700
def Sr:∀(m:Nat) (rest:List cK),rest.length=m->∀{st:St} {G:GM} {f:cK} {n:bp} {h:Nat} {x v:CV} {LL:List bq},Tg τ π st G->za G h f.page rest n LL->n.size<=640->rest.length+2<=G.cF->
 eu st π.W x (rest.reverse++[f])->IsNode st π.W v n->rest.length<=16->R 52 [.ptr τ 0,x,v] st (Dm τ π G LL st):=by
 intro m
 induction m using Nat.strongRecOn with
 |_ m ih=>
  intro rest hm st G f n h x v LL ht hg hsz j0 hst hv vO;have mV:=ht.Oc;have sV:∀q,st.nx<=q->q∉π.W:=λq hq hh=>aak
  have zo:=hv;obtain⟨vc,vk,rfl,J9,LM⟩:=hv
  have oO:n.cells.length<=640:=by
   have:=eC n.leaf n.cells;rw[ck]at hsz;omega
  refine bP ?_;rw[w52];rw[bV,aT];refine⟨rfl,?_⟩;have k1:Kp [] st (St.new st (.cells [.bool n.leaf,vc,vk] 105 false)):=(Kp.refl [] st).new _;have g1:(St.new st (.cells [.bool n.leaf,vc,vk] 105 false)).m.g st.nx=some (.cells [.bool n.leaf,vc,vk] 105 false):=ao _ _;have n1:(St.new st (.cells [.bool n.leaf,vc,vk] 105 false)).nx=st.nx+1:=rfl;generalize St.new st (.cells [.bool n.leaf,vc,vk] 105 false)=s1 at*;have gD:=hst.mono (k1.mono uG);have uT:(rest.reverse++[f]).length=rest.length+1:=uG
  have e3:=λs=>by
   have:=vd (rest.length+1) qE qE s none
   rwa [aFY]at this
  obtain⟨zy,zx,c1,c2,gG⟩:=gD.row (i:=rest.length) uG;have hf:(rest.reverse++[f])[rest.length]'(by simp)=f:=uG
  rw[hf]at c1 c2 gG;have hlen:=λs=>hst.len s;rw[uT]at hlen;simp only[hlen,af,e3];refine gG _ ?_;refine kJ c1.bE.2.1 c2.bE.2.1 ?_;have k3:Kp [] s1 (St.new s1 (.cells [I f.page,I f.at_,.bool f.n.leaf,zy,zx] 107 false)):=(Kp.refl [] s1).new _;have g3:(St.new s1 (.cells [I f.page,I f.at_,.bool f.n.leaf,zy,zx] 107 false)).m.g s1.nx=some (.cells [I f.page,I f.at_,.bool f.n.leaf,zy,zx] 107 false):=ao _ _;have n3:(St.new s1 (.cells [I f.page,I f.at_,.bool f.n.leaf,zy,zx] 107 false)).nx=s1.nx+1:=rfl;generalize St.new s1 (.cells [I f.page,I f.at_,.bool f.n.leaf,zy,zx] 107 false)=s3 at*;have jN:=k1.trans k3 uG;have nE:=(k3.keep st.nx qE uG).trans g1;have st3:=gD.mono (k3.mono uG);have t3:=ht.still jN;have v3:=zo.mono (jN.mono uG);have e4:ai .eql (some .int) true (I ((rest.length+1:Nat):Int)) (.int .i64 1) s3=.ok (.bool (decide (rest.length=0))) s3:=OX
  have e5:∀s,ai .neq (some .int) true (I 0) (.int .i64 0) s=.ok (.bool false) s:=λs=>rfl;simp only[af,e4,ag];have Vl:∀s,Kp [] st s->bo .slice vc s=.ok (I n.cells.length) s:=λs hs=>(J9.mono (hs.mono uG)).len n.cells.length (bB _) qE s
  have Hs:∀s,Kp [] st s->(n.leaf=true\/n.cells≠[])->R 104 [.ptr τ 0,x,.agg [.bool n.leaf,vc,vk]] s λy s'=>Dm τ π G LL st y s':=by
   intro s hs jh;refine(ado (ht.still hs) hg jh hsz j0 (hst.mono (hs.mono uG)) (zo.mono (hs.mono uG)) vO).mono ?_;rintro y s' ⟨rfl,k',G',t',to',oI⟩;exact⟨rfl,(hs.mono uG).trans k' ael,G',t',to',oI⟩
  obtain⟨lo,hi,Ll,Lr,L,ps,q,wQ,kD,ja,TI⟩:=hg.ctx;cases rest with
  |nil=>
   rw[aEW (show decide (([]:List cK).length=0)=true from rfl)];obtain⟨_,rfl,rfl,rfl,rfl,rfl⟩:=(show f.page=G.root/\lo=[]/\hi=none/\Ll=[]/\Lr=[]/\ps=[]from wQ);have ez:∀s,ai .eql (some .int) true (I n.cells.length) (.int .i64 0) s=.ok (.bool (decide (n.cells.length=0))) s:=λs=>OX
   simp only[fl,ah,af,aB,nE,aq,aER,aEL,ay];simp only[aFt,aFN]at TI ja;rw[aFd]at ja;cases fL:n.leaf with
   |true=>
    rw[fL]at nE Hs;simp only[aG,aFm,gQ,bh,ah,af,aB,nE,aq,aER,aEN,aEL,ay,Vl s3 jN,ez,aF,ag,cU,aFh,aEM,aFa,bS]
    by_cases h0:n.cells.length=0
    .rw[aEV h0,aEW rfl];refine t3.get' ?_;refine(pW t3.pg 0 (.inl rfl)).mono ?_;rintro _ s4 ⟨rfl,k4,p4⟩;have t4:=t3.of k4 p4;have OB:=(k4.keep s1.nx qE (sV _ qE)).trans g3;simp only[e5,af,ag,aEM,aFa,bG,OB,aq,aEL,ay];obtain⟨ty,g,hg4⟩:=t4.get;simp only[bF,ah,af,aB,hg4,aq,aER,aEL,ay];refine(DX t4.pg (n:=f.page) hg.bW).mono ?_;rintro _ s5 ⟨rfl,k5,p5⟩
     have RM:LL=[]:=by
      rw[<-TI];obtain⟨_,c⟩:n.cells=[]/\True:=⟨aFi.1 h0,aer⟩;have afG:=kD.leaf;cases h with
      |zero=>
       obtain⟨_,_,hcp,_⟩:=kD;rw[aFi.1 h0]at hcp;exact hcp.1
      |succ h=>rw[fL]at afG;cases afG
     exact⟨⟨aer,aer,aer⟩,aer,rfl,(((jN.mono uG).trans k4 ael).trans k5 ael),_,t4.of k5 p5,⟨(tU (hg.ok.gM 0) hg.bW).ok,.inl ⟨rfl,RM⟩⟩,rfl⟩
    .rw[aEO h0,aET u7];rw[aK (n:=3) nE rfl,af];exact Hs s3 jN (.inl rfl)
   |false=>
    rw[fL]at nE Hs;simp only[aG,aFm,gQ,bh,bS,ah,af,aB,nE,aq,aER,aEN,aEL,ay,Vl s3 jN,ez,aF,ag,cU,aFf,aEM,aFa]
    by_cases h0:n.cells.length=0
    .rw[aEV h0,aEW rfl];have hce:=aFi.1 h0;cases h with
     |zero=>have:=kD.leaf;rw[fL]at this;cases this
     |succ h=>
      obtain⟨_,BW⟩:=kD;have AM:=BW.len;have hse:n.ft=[]:=by unfold bp.ft;rw[hce];rfl
      rw[hse]at BW AM;obtain⟨kk,It⟩:∃kk,n.kids=[kk]:=List.length_eq_one_iff.1 (by simpa using AM);rw[It,cz.one]at BW;obtain⟨_,ur⟩:=BW;have hku:G.bW kk:=by obtain⟨nn,qq,BU,_⟩:=ur;exact BU.bW
      have aab:=LM.mono (jN.mono uG);rw[It]at aab;obtain⟨ty,g,hg3⟩:=t3.get;have Xx:∀K:CV->Prop,K (I kk)->Lim.idx 1 vk (I ((0:Nat):Int)) s3 K:=λK hK=>aab.idx (i:=0) uG K hK
      have aoZ:∃p,cc 1 vk (.int .i64 0) s3=.ok p s3/\∀K:CV->Prop,K (I kk)->us (aC p s3) K:=by
       obtain⟨b,p,l,t,g,q1,q2,q3,q4,q5⟩:=(show Sl s3 π.W vk 1 ([[I kk]]:List (List CV)).flatten from aab).cellAt qE uG (i:=0) uG;refine⟨_,q1 s3,λK hK=>?_⟩;have:=q5 0 (I kk) rfl;rw[aFC]at this;rw[aB,q2,aq,this];exact hK
      obtain⟨p,Tx,Nj⟩:=aoZ;simp only[bG,bF,ah,af,aB,hg3,aq,aER,aEL,ay,Tx];refine Nj _ ?_;refine(pW t3.pg kk (.inr hku)).mono ?_;rintro _ s6 ⟨rfl,k6,p6⟩;have t6:=t3.of k6 p6;have g36:=(k6.keep s1.nx qE (sV _ qE)).trans g3;obtain⟨ty6,gg6,hg6⟩:=t6.get;simp only[e5,af,ag,aEM,aFa,hg6,g36,aq,aEL,ay,aHa];refine(DX t6.pg (n:=f.page) hg.bW).mono ?_;rintro _ s7 ⟨rfl,k7,p7⟩;have hD:=tU (hg.ok.gM kk) hg.bW;refine⟨rfl,(((jN.mono uG).trans k6 ael).trans k7 ael),_,t6.of k7 p7,⟨hD.ok,.inr ⟨h,q,ja.2,?_⟩⟩,rfl⟩;rw[<-TI];exact(show Sub G h kk [] none L q from ur).kept λz hz=>⟨λhu=>(hD.bW z).2 ⟨hu,λe=>ja.1 (e▸hz)⟩,rfl⟩
    .rw[aEO h0,aET u7];rw[aK (n:=3) nE rfl,af];exact Hs s3 jN (.inr λe=>h0 (by rw[e];rfl))
  |cons sm fX=>
   rw[aET (show¬decide ((sm::fX).length=0)=true by simp)];refine fH nE ?_;refine(zf t3.fr (v3.dW uG) hg.JE qE).mono ?_;rintro _ s9 ⟨rfl,k9⟩;have Z8:=jN.trans k9 uG;have n9:=k9.nx;have X3:=(k9.keep st.nx qE uG).trans nE;have e6:ai .geq none true (I n.size) (.int .i64 128) s9=.ok (.bool (decide (128<=n.size))) s9:=by rw[az,sG];congr 2;simp only[aFo];omega
   rw[e6,af,ag]
   by_cases aaI:128<=n.size
   .rw[aEV aaI,aEW rfl];refine fH X3 ?_;exact Hs s9 Z8 (zI hg.JE aaI)
   .rw[aEO aaI,aET u7];have XL:=wQ;obtain⟨_,_,_,_,_,_,_,_,_,_,Nh,Zy,aoU,_⟩:=wQ
    have aeZ:sm.n.cells.length<=512:=by
     have:=eC sm.n.leaf sm.n.cells;have:=Nh.size;rw[ck]at this;omega
    have Zz:=Nh.ok.jw;rw[Zy,aET u7]at Zz;obtain⟨yU,_⟩:=aFb.1 aoU
    have nK:2<=sm.n.kids.length:=by
     rcases Nh.full with h|h
     .rw[Zy]at h;cases h
     .have:=aGX.2 h;omega
    have st9:=hst.mono (Z8.mono uG)
    have e7:ai .sub none true (I (((sm::fX).length+1:Nat):Int)) (.int .i64 2) s9=.ok (I fX.length) s9:=by
     rw[az,dR,aFp,bz (by simp at vO;omega)];congr 2;omega
    obtain⟨qD,ni,d1,d2,GV⟩:=st9.row (i:=fX.length) uG;have Rt:((sm::fX).reverse++[f])[fX.length]'(by simp)=sm:=uG
    rw[Rt,Zy]at GV;rw[Rt]at d1 d2;rw[e7,af];refine GV _ ?_;refine kJ d1.bE.2.1 d2.bE.2.1 ?_;have qg:Kp [] s9 (St.new s9 (.cells [I sm.page,I sm.at_,.bool false,qD,ni] 107 false)):=(Kp.refl [] s9).new _;have rj:(St.new s9 (.cells [I sm.page,I sm.at_,.bool false,qD,ni] 107 false)).m.g s9.nx=some (.cells [I sm.page,I sm.at_,.bool false,qD,ni] 107 false):=ao _ _;have Om:(St.new s9 (.cells [I sm.page,I sm.at_,.bool false,qD,ni] 107 false)).nx=s9.nx+1:=rfl;generalize St.new s9 (.cells [I sm.page,I sm.at_,.bool false,qD,ni] 107 false)=bO at*;have xN:=Z8.trans qg uG;have arI:=(qg.keep st.nx qE uG).trans X3;have d2':=d2.mono (qg.mono uG);have d1':=d1.mono (qg.mono uG);have afE:=d2'.len sm.n.kids.length uG qE bO;simp only[fl,ah,af,aB,rj,aq,aER,Nat.reduceAdd,aEN,aEL,ay,gH sm.at_ qE];refine jO (λvs s=>bO=s/\∃beside:Nat,vs=[.ptr τ 0,x,.ptr st.nx 0,.ptr s9.nx 0,I sm.at_,I beside]/\((beside=sm.at_+1/\sm.at_+1<sm.n.kids.length)\/(sm.at_=beside+1/\sm.at_+1=sm.n.kids.length))) ?_ ?_
    .intro k' CT;have e8:ai .eql (some .int) false (I ((sm.at_+1:Nat):Int)) (I sm.n.kids.length) bO=.ok (.bool (decide (sm.at_+1=sm.n.kids.length))) bO:=by rw[az,cI];congr 2;simp only[aFo];omega
     simp only[afE,af,e8,ag]
     by_cases Hd:sm.at_+1=sm.n.kids.length
     .rw[aEV Hd,aEW rfl,vd sm.at_ qE qE,af];exact CT _ _ ⟨rfl,sm.at_-1,rfl,.inr ⟨qE,Hd⟩⟩
     .rw[aEO Hd,aET u7];exact CT _ _ ⟨rfl,sm.at_+1,rfl,.inl ⟨rfl,qE⟩⟩
    .rintro _ _ ⟨rfl,beside,rfl,Oz⟩
     have hB:∃(other:bp) (po left:Nat) (first second:bp) (sep:cn) (pf pn:Nat) (d:uf),nh G po other/\sm.n.kids[beside]?=some po/\vM G h sm fX left first second sep pf pn (Ll++(L++Lr)) (f.page::(q++ps)) d/\
      ((beside=sm.at_+1/\left=sm.at_/\first=n/\second=other)\/(sm.at_=beside+1/\left=beside/\first=other/\second=n)):=by
      rcases Oz with⟨e,hlt⟩|⟨e,hlt⟩
      .obtain⟨other,pn,sep,d,x1,x2⟩:=MC XL hg.bW hg.JE kD hlt;exact⟨other,pn,_,_,_,sep,_,pn,d,x1,by rw[e];exact x2.UY,x2,.inl ⟨e,rfl,rfl,rfl⟩⟩
      .obtain⟨other,pf,sep,d,x1,x2⟩:=PA XL hg.bW hg.JE kD e;exact⟨other,pf,_,_,_,sep,pf,_,d,x1,x2.QB,x2,.inr ⟨e,rfl,rfl,rfl⟩⟩
     obtain⟨other,po,left,first,second,sep,pf,pn,d,qy,hkb,aax,afc⟩:=hB;rw[TI]at aax;obtain⟨uy,hbe⟩:=aFb.1 hkb;simp only[aL,aM,ah,af,aB,rj,aq,aER,Nat.reduceAdd,aEN,aEL,ay];refine d2'.idx (i:=beside) (by simpa using uy) _ ?_;have e9:(cJ sm.n.kids)[beside]'(by simpa using uy)=I po:=by simp[cJ,hbe]
     rw[e9];refine(zD (ht.still xN) qy).mono ?_;rintro _ eT ⟨xo,rfl,wJ,hxo⟩;have n14:=wJ.nx;have XS:∀b∈π.W,b<bO.nx:=λb hb=>by have:=mV b hb;have:=xN.nx;omega
     obtain⟨Fy,Fx,rfl,o1,o2⟩:=hxo π.W XS;simp only[aE,aN,af];refine qV o1.bE.2.1 o2.bE.2.1 ?_;have zn:Kp [] eT (St.new eT (.cells [.bool other.leaf,Fy,Fx] 105 false)):=(Kp.refl [] eT).new _;have Iy:(St.new eT (.cells [.bool other.leaf,Fy,Fx] 105 false)).m.g eT.nx=some (.cells [.bool other.leaf,Fy,Fx] 105 false):=ao _ _;have n16:(St.new eT (.cells [.bool other.leaf,Fy,Fx] 105 false)).nx=eT.nx+1:=rfl;generalize St.new eT (.cells [.bool other.leaf,Fy,Fx] 105 false)=bU at*;have rK:=wJ.trans zn uG;have ahH:=(rK.keep st.nx (by have:=xN.nx;omega) uG).trans arI;have X1:=(rK.keep s9.nx qE uG).trans rj;rw[e5,af,ag,aET u7,bG];have yy:(St.new bU (.cells [.bool false,.ae,.ae] 105 false)).nx=bU.nx+1:=rfl;have kA:Kp [] bU (St.new (St.new bU (.cells [.bool false,.ae,.ae] 105 false)) (.cells [.bool false,.ae,.ae] 105 false)):=((Kp.refl [] bU).new _).new _;have gA1:(St.new (St.new bU (.cells [.bool false,.ae,.ae] 105 false)) (.cells [.bool false,.ae,.ae] 105 false)).m.g bU.nx=some (.cells [.bool false,.ae,.ae] 105 false):=(bg _ _ _ uG).trans (ao _ _);have gA2:(St.new (St.new bU (.cells [.bool false,.ae,.ae] 105 false)) (.cells [.bool false,.ae,.ae] 105 false)).m.g (bU.nx+1)=some (.cells [.bool false,.ae,.ae] 105 false):=ao (St.new bU (.cells [.bool false,.ae,.ae] 105 false)) _;have nA:(St.new (St.new bU (.cells [.bool false,.ae,.ae] 105 false)) (.cells [.bool false,.ae,.ae] 105 false)).nx=bU.nx+2:=rfl;rw[yy];generalize St.new (St.new bU (.cells [.bool false,.ae,.ae] 105 false)) (.cells [.bool false,.ae,.ae] 105 false)=sA at*;have afT:=xN.trans rK uG;have aue:=afT.nx;have JS:∀(y:List CV) a b c,y.length=3->bD y 0 [a,b,c]=[a,b,c]:=λy a b c hy=>ep _ _ (by simp[hy]);have g1A:=(kA.keep st.nx qE uG).trans ahH;have ahA:=(kA.keep eT.nx qE uG).trans Iy;have aBL:=(kA.keep s9.nx acK uG).trans X1
     obtain⟨q1,q2,q3⟩:=J9.bE;obtain⟨q4,q5,q6⟩:=LM.bE;obtain⟨q7,q8,q9⟩:=o1.bE;obtain⟨q10,q11,q12⟩:=o2.bE;rw[aK (n:=3) g1A rfl,af,aK (n:=3) ahA rfl,af,jW gA1,aS,jW gA2,aS,aJ,gA1,aW,aT,JS _ _ _ _ rfl];refine⟨⟨rfl,by simp[q2,q5],uG⟩,?_⟩;rw[aJ,al _ _ _ _ qE,gA2,aW,aT,JS _ _ _ _ rfl];refine⟨⟨rfl,by simp[q8,q11],uG⟩,?_⟩;have arw:(St.set sA bU.nx (.cells [.bool n.leaf,vc,vk] 105 false)).m.g eT.nx=_:=(al _ _ _ _ qE).trans ahA;rw[aK (n:=3) arw rfl,af];refine⟨⟨aer,⟨rfl,aer⟩,aer,aer,aer⟩,aer,?_⟩;have kC:Kp [] bU (St.set (St.set sA bU.nx (.cells [.bool n.leaf,vc,vk] 105 false)) (bU.nx+1) (.cells [.bool other.leaf,Fy,Fx] 105 false)):=(kA.set _ (.inr (aEQ _)) qE).set _ (.inr qE) vR;have gC1:(St.set (St.set sA bU.nx (.cells [.bool n.leaf,vc,vk] 105 false)) (bU.nx+1) (.cells [.bool other.leaf,Fy,Fx] 105 false)).m.g bU.nx=some (.cells [.bool n.leaf,vc,vk] 105 false):=(al _ _ _ _ qE).trans (ar _ _ _);have gC2:(St.set (St.set sA bU.nx (.cells [.bool n.leaf,vc,vk] 105 false)) (bU.nx+1) (.cells [.bool other.leaf,Fy,Fx] 105 false)).m.g (bU.nx+1)=some (.cells [.bool other.leaf,Fy,Fx] 105 false):=ar _ _ _;have nC:(St.set (St.set sA bU.nx (.cells [.bool n.leaf,vc,vk] 105 false)) (bU.nx+1) (.cells [.bool other.leaf,Fy,Fx] 105 false)).nx=bU.nx+2:=nA;generalize St.set (St.set sA bU.nx (.cells [.bool n.leaf,vc,vk] 105 false)) (bU.nx+1) (.cells [.bool other.leaf,Fy,Fx] 105 false)=iN at*;have Vp:=afT.trans kC uG;have Aw:=rK.trans kC uG;have ahG:=(kC.keep st.nx qE uG).trans ahH;have ahB:=(kC.keep eT.nx qE uG).trans Iy;have X0:=(kC.keep s9.nx acK uG).trans X1;have amz:=zo.mono (Vp.mono uG);have amy:IsNode iN π.W (.agg [.bool other.leaf,Fy,Fx]) other:=⟨Fy,Fx,rfl,(o1.mono (zn.mono uG)).mono (kC.mono uG),(o2.mono (zn.mono uG)).mono (kC.mono uG)⟩
     have hos:=qy.size;refine jO (λvs s=>∃X8 X7 cf kf cs ks,Wm τ π st G h sm fX LL x s9.nx vs s left first second sep pf pn (f.page::(q++ps)) d X8 X7 cf kf cs ks qD ni) ?_ ?_
     .intro k72 afR;rw[dC,af,ag];rcases afc with⟨x1,rfl,rfl,rfl⟩|⟨x1,rfl,rfl,rfl⟩
      .rw[aEO qE,aET u7];exact afR _ _ ⟨_,_,vc,vk,Fy,Fx,rfl,Vp,⟨qE,qE,qE⟩,⟨qE,qE,qE⟩,X0,gC1,gC2,amz,amy,⟨d1'.mono (Aw.mono uG),d2'.mono (Aw.mono uG)⟩,aax,ja,qE⟩
      .rw[aEV qE,aEW rfl,bG,aK (n:=3) ahB rfl,af,aK (n:=3) ahG rfl,af,aJ,gC1,aW,aT,JS _ _ _ _ rfl];refine⟨⟨rfl,by simp[q8,q11],uG⟩,?_⟩;rw[aJ,al _ _ _ _ qE,gC2,aW,aT,JS _ _ _ _ rfl];refine⟨⟨rfl,by simp[q2,q5],uG⟩,?_⟩;have g1B:(St.set iN bU.nx (.cells [.bool first.leaf,Fy,Fx] 105 false)).m.g st.nx=_:=(al _ _ _ _ qE).trans ahG;rw[aK (n:=3) g1B rfl,af];refine⟨⟨aer,⟨rfl,aer⟩,aer⟩,aer,?_⟩;have kE:Kp [bU.nx,bU.nx+1] iN (St.set (St.set iN bU.nx (.cells [.bool first.leaf,Fy,Fx] 105 false)) (bU.nx+1) (.cells [.bool second.leaf,vc,vk] 105 false)):=((Kp.refl _ iN).set (p:=bU.nx) _ (.inl uG) qE).set (p:=bU.nx+1) _ (.inl uG) vR;have nn2:=(zo.dW (Y:=π.W++[bU.nx,bU.nx+1]) (by intro b hb;simp at hb;rcases hb with h|h|h;exact .inl h;right;omega;right;omega)).mono (Vp.mono uG);have oo1:=(((hxo (π.W++[]) (by simpa using XS)).dW (Y:=π.W++[bU.nx,bU.nx+1]) (by intro b hb;simp at hb⊢;rcases hb with h|h|h;exact .inl h;right;omega;right;omega)).mono (zn.mono uG)).mono (kC.mono uG);have VC:∀b∈[bU.nx,bU.nx+1],b∈π.W++[bU.nx,bU.nx+1]\/iN.nx<=b:=λb hb=>.inl (by simp at hb⊢;rcases hb with h|h<;>simp[h]);refine afR _ _ ⟨bU.nx,bU.nx+1,Fy,Fx,vc,vk,rfl,(Vp.mono uG).trans kE (by intro b hb;simp at hb;right;omega),⟨vR,vR,vR⟩,⟨qE,qE,qE⟩,(al _ _ _ _ acK).trans ((al _ _ _ _ acK).trans X0),(al _ _ _ _ qE).trans (ar _ _ _),ar _ _ _,(oo1.mono (kE.mono VC)).dW (by intro b hb;simp[hb]),(nn2.mono (kE.mono VC)).dW (by intro b hb;simp[hb]),⟨?_,?_⟩,aax,ja,qE⟩
       .have:=((d1'.dW (Y:=π.W++[bU.nx,bU.nx+1]) (by intro b hb;simp at hb;rcases hb with h|h|h;exact .inl h;right;have:=rK.nx;omega;right;have:=rK.nx;omega)).mono (Aw.mono uG)).mono (kE.mono VC);exact this.dW (by intro b hb;simp[hb])
       .have:=((d2'.dW (Y:=π.W++[bU.nx,bU.nx+1]) (by intro b hb;simp at hb;rcases hb with h|h|h;exact .inl h;right;have:=rK.nx;omega;right;have:=rK.nx;omega)).mono (Aw.mono uG)).mono (kE.mono VC);exact this.dW (by intro b hb;simp[hb])
     .rintro vs fR ⟨X8,X7,cf,kf,cs,ks,⟨rfl,K21,⟨l53,l68,l69⟩,⟨w53,w68,w69⟩,g53,g68,g69,N1,N2,⟨p1,p2⟩,B,-,anr⟩⟩;have atI:=B;obtain⟨adJ,Hc,yx,cL,hcL,hcK⟩:=vK B;have aCI:=K21.nx;simp only[aL,aM]
      have EH:∀K:CV->Prop,K (.agg [.bool false,qD,ni])->LW 3 2 (.ptr s9.nx 0) fR K:=λK hK=>by
       unfold LW;rw[ah,af,gF (n:=3) g53 uG,af];exact hK
      refine EH _ ?_;refine qV p1.bE.2.1 p2.bE.2.1 ?_;have k22:Kp [] fR (St.new fR (.cells [.bool false,qD,ni] 105 false)):=(Kp.refl [] fR).new _;have VI:(St.new fR (.cells [.bool false,qD,ni] 105 false)).m.g fR.nx=some (.cells [.bool false,qD,ni] 105 false):=ao _ _;have n22:(St.new fR (.cells [.bool false,qD,ni] 105 false)).nx=fR.nx+1:=rfl;generalize St.new fR (.cells [.bool false,qD,ni] 105 false)=tF at*;rw[bG,ah,af,aB,VI,aq];simp only[aER,aEN,aEL,ay];refine(tW ((p1.dW (Y:=[]) uG).mono (k22.mono uG)) (dS _) Yk).mono ?_;rintro xc qM ⟨F1,xJ,o1,Ki,_⟩;have n23:=xJ.nx;have Hu:=(xJ.keep fR.nx qE uG).trans VI;rw[ah,af,aB,Hu,aq];simp only[aER,aEN,aEL,ay];have WU:=k22.trans xJ uG;refine(A4 ((p2.dW (Y:=[]) uG).mono (WU.mono uG)) (jI _) (by rw[qd];omega)).mono ?_;rintro xk iT ⟨F2,kc2,o2,fF2,_⟩;have n24:=kc2.nx;have ND:=(kc2.keep fR.nx qE uG).trans Hu;have aeu:=WU.trans kc2 uG;obtain⟨UJ,Qm⟩:=o1.cE;obtain⟨od1,od2⟩:=o2.cE;rw[ah,af,aJ,ND,aW,Qm];refine⟨⟨rfl,by simp[UJ],uG⟩,?_⟩;rw[ah,af,aJ,ar,aW,od2];refine⟨⟨rfl,by simp[od1],by simp[bD]⟩,?_⟩;rw[aB,VI,aq];refine⟨⟨aer,⟨rfl,aer⟩,aer⟩,aer,?_⟩;have WT:Kp [] fR (St.set (St.set iT fR.nx (.cells (bD [.bool false,qD,ni] (0+1) [xc]) 105 false)) fR.nx (.cells (bD (bD [.bool false,qD,ni] (0+1) [xc]) (0+2) [xk]) 105 false)):=(aeu.set _ (.inr (aEQ _)) qE).set _ (.inr (aEQ _)) vR;have g25:(St.set (St.set iT fR.nx (.cells (bD [.bool false,qD,ni] (0+1) [xc]) 105 false)) fR.nx (.cells (bD (bD [.bool false,qD,ni] (0+1) [xc]) (0+2) [xk]) 105 false)).m.g fR.nx=some (.cells [.bool false,xc,xk] 105 false):=ar _ _ _;have n25:(St.set (St.set iT fR.nx (.cells (bD [.bool false,qD,ni] (0+1) [xc]) 105 false)) fR.nx (.cells (bD (bD [.bool false,qD,ni] (0+1) [xc]) (0+2) [xk]) 105 false)).nx=iT.nx:=rfl;have pO:∀b∈F1,fR.nx<b/\b<qM.nx:=λb hb=>acs
      have rI:=fF2;have aeb:Own (St.set (St.set iT fR.nx (.cells (bD [.bool false,qD,ni] (0+1) [xc]) 105 false)) fR.nx (.cells (bD (bD [.bool false,qD,ni] (0+1) [xc]) (0+2) [xk]) 105 false)) xc 4 109 (bC sm.n.cells) F1:=(o1.keep kc2 λb hb=>⟨(pO b hb).2,uG⟩).mono λb hb=>by have:=pO b hb;rw[al _ _ _ _ qE,al _ _ _ _ qE]
      have amq:Own (St.set (St.set iT fR.nx (.cells (bD [.bool false,qD,ni] (0+1) [xc]) 105 false)) fR.nx (.cells (bD (bD [.bool false,qD,ni] (0+1) [xc]) (0+2) [xk]) 105 false)) xk 1 3 (cJ sm.n.kids) F2:=o2.mono λb hb=>by have:=rI b hb;rw[al _ _ _ _ qE,al _ _ _ _ qE]
      generalize St.set (St.set iT fR.nx (.cells (bD [.bool false,qD,ni] (0+1) [xc]) 105 false)) fR.nx (.cells (bD (bD [.bool false,qD,ni] (0+1) [xc]) (0+2) [xk]) 105 false)=jA at*;have WS:Kp [] jA (St.new jA (.cells [.bool false,.ae,.ae] 105 false)):=(Kp.refl [] jA).new _;have ahD:(St.new jA (.cells [.bool false,.ae,.ae] 105 false)).m.g jA.nx=some (.cells [.bool false,.ae,.ae] 105 false):=ao _ _;have n26:(St.new jA (.cells [.bool false,.ae,.ae] 105 false)).nx=jA.nx+1:=rfl;rw[bG];generalize St.new jA (.cells [.bool false,.ae,.ae] 105 false)=zP at*;have CL:=WT.trans WS uG;have g26:=(WS.keep fR.nx qE uG).trans g25;have ahz:=(CL.keep X8 qE uG).trans g68;have ahy:=(CL.keep X7 qE uG).trans g69;have adH:Sl zP [] xc 4 (sm.n.cells.map aU).flatten:=(aeb.keep WS λb hb=>⟨Mr,uG⟩).sl λb hb=>⟨uG,Mr⟩;have Z3:left<(sm.n.cells.map aU).length:=by simpa using Hc
      obtain⟨cb,cp,cl,ct,cg,q1',q2',q3',q4',q5'⟩:=adH.cellAt qE (fp _) (i:=left) Z3
      have apV:sm.n.cells[left]=cL:=by
       obtain⟨_,h⟩:=aFb.1 hcL;exact h
      have Hf:cl[cp]?=some (.str sep):=by
       have:=q5' 0 (.str sep) (by simp[apV,aU,hcK])
       rwa [aFC]at this
      refine fH ahz ?_;simp only[af,aB,g26,aq,aER,aEN,aEL,ay,q1',ah,q2',aFC,Hf];refine fH ahy ?_;have Ix:first.cells.length<=700:=by have:=eC first.leaf first.cells;have:=anr;rw[ck]at this;omega
      have CX:second.cells.length<=700:=by
       have:=eC second.leaf second.cells;have h3:=ck second;omega
      have aqg:first.kids.length<=1001:=by rw[B.UH.jw];split<;>omega
      have aqf:second.kids.length<=1001:=by rw[B.ok2.jw];split<;>omega
      have arL:=CL.fresh (K21.fresh ht.fr);obtain⟨J1,J2,J3⟩:=B.c1.join B.c2 B.UH B.ok2 adJ;refine(Wi arL ((N1.dW uG).mono CL) ((N2.dW uG).mono CL) qE qE aqg aqf).mono ?_;rintro xw yg ⟨Na,hxw⟩;have n28:=Na.nx;have aqE:=K21.trans CL uG;have auR:=aqE.nx;obtain⟨cw,kw,rfl,w1,w2⟩:=hxw (π.W++[]) (by intro b hb;simp at hb;have:=mV b hb;omega);have X2:=(Na.keep jA.nx qE uG).trans ahD;have apm:=(Na.keep fR.nx qE uG).trans g26;rw[jW X2,aS,aJ,X2,aW,aT,JS _ _ _ _ rfl];refine⟨⟨rfl,by simp[w1.bE.2.1,w2.bE.2.1],uG⟩,?_⟩;rw[jW ahD,aS];refine⟨⟨aer,aer,aer,aer,⟨rfl,aer⟩,aer⟩,aer,?_⟩;have QG:Kp [] jA (St.set yg jA.nx (.cells [.bool (dG first sep second).leaf,cw,kw] 105 false)):=(WS.trans Na uG).set _ (.inr (aEQ _)) qE;have g30:(St.set yg jA.nx (.cells [.bool (dG first sep second).leaf,cw,kw] 105 false)).m.g jA.nx=some (.cells [.bool (dG first sep second).leaf,cw,kw] 105 false):=ar _ _ _;have aqS:(St.set yg jA.nx (.cells [.bool (dG first sep second).leaf,cw,kw] 105 false)).m.g fR.nx=some (.cells [.bool false,xc,xk] 105 false):=(al _ _ _ _ qE).trans apm;have n30:(St.set yg jA.nx (.cells [.bool (dG first sep second).leaf,cw,kw] 105 false)).nx=yg.nx:=rfl
      have aed:IsNode (St.set yg jA.nx (.cells [.bool (dG first sep second).leaf,cw,kw] 105 false)) (π.W++[jA.nx]) (.agg [.bool (dG first sep second).leaf,cw,kw]) (dG first sep second):=by
       obtain⟨cw2,kw2,e,w3,w4⟩:=hxw (π.W++[jA.nx]) (by intro b hb;simp at hb;rcases hb with h|h;have:=mV b h;omega;omega);simp only[CV.agg.injEq,aGn,and_true,aHa]at e;obtain⟨rfl,rfl⟩:=e;have kk:Kp [jA.nx] yg (St.set yg jA.nx (.cells [.bool (dG first sep second).leaf,cw,kw] 105 false)):=(Kp.refl _ yg).set _ (.inl uG) qE;exact⟨cw,kw,rfl,w3.mono (kk.mono (by intro b hb;left;simp at hb⊢;exact .inr hb)),w4.mono (kk.mono (by intro b hb;left;simp at hb⊢;exact .inr hb))⟩
      generalize St.set yg jA.nx (.cells [.bool (dG first sep second).leaf,cw,kw] 105 false)=PL at*;have aet:=WT.trans QG uG;have agY:=K21.trans aet uG;have amt:=aeb.keep QG λb hb=>⟨Mr,uG⟩;have amp:=amq.keep QG λb hb=>⟨Im,uG⟩;refine fH g30 ?_
      have hjc:(dG first sep second).cells.length<=1000:=by
       have:=eC (dG first sep second).leaf (dG first sep second).cells;have h3:=ck (dG first sep second);omega
      have arK:=agY.fresh ht.fr;refine(zf arK (aed.dW uG) J2 hjc).mono ?_;rintro _ zO ⟨rfl,Zb⟩;have n31:=Zb.nx;have Hp:=agY.trans Zb uG;have g31:=(Zb.keep jA.nx qE uG).trans g30;have aaJ:=(Zb.keep fR.nx qE uG).trans aqS;have aea:=amt.keep Zb λb hb=>⟨Mr,uG⟩;have YP:=amp.keep Zb λb hb=>⟨Im,uG⟩;have aec:=aed.mono (Zb.mono uG);have t31:=ht.still Hp;have axl:=hst.mono (Hp.mono uG);have arW:ai .leq none true (I (dG first sep second).size) (.int .i64 512) zO=.ok (.bool (decide ((dG first sep second).size<=512))) zO:=IN
      rw[arW,af,ag]
      have wO:∀(i:Nat) (p:Nat),sm.n.kids[i]?=some p->∀s,Kp π.W zO s->∃a,cc 1 xk (I i) s=.ok a s/\∀K:CV->Prop,K (I p)->us (aC a s) K:=by
       intro i p hi s hs;obtain⟨Ff,hie⟩:=aFb.1 hi
       have lq:Sl s π.W xk 1 ((cJ sm.n.kids).map λx=>[x]).flatten:=by
        have h2:=YP.sl λb hb=>⟨sV b Im,Im⟩;have e:((cJ sm.n.kids).map λx=>[x]).flatten=cJ sm.n.kids:=by simp[<-List.flatMap_def]
        rw[e];exact h2.mono hs
       obtain⟨b,p',l,t,g,a1,a2,a3,a4,a5⟩:=lq.cellAt qE uG (i:=i) (by simpa using Ff);refine⟨_,a1 s,λK hK=>?_⟩;have:=a5 0 (I p) (by simp[cJ,hie]);rw[aFC]at this;rw[aB,a2,aq,this];exact hK
      by_cases vI:(dG first sep second).size<=512
      .rw[aEV vI,aEW rfl,bG];obtain⟨g_u,aaQ,arj,ark⟩:=HQ B hg.ok ja vI;have eU:∀b,st.nx<=b->b∉π.all/\b≠τ:=λb hb=>⟨λhh=>by have:=ht.pg.lt b hh;omega,λe=>acL⟩;obtain⟨pa1,RJ,aaA⟩:=wO left pf B.QB zO (Kp.refl _ _);simp only[af,aaJ,aq,aEN,aEL,ay,RJ];refine aaA _ ?_;refine fH g31 ?_;refine(lW t31 B.u1 (aec.dW uG) J2 vI).mono ?_;rintro _ lK ⟨rfl,WO,t32⟩;have n32:=WO.nx;have agX:=Hp.nx;have ahp:=(WO.keep fR.nx qE (sV _ qE)).trans aaJ;obtain⟨pa2,Fj,aaz⟩:=wO (left+1) pn B.UY lK WO;obtain⟨axf,aBx,apk⟩:=t32.get;rw[e5,af,ag,aET u7,bG,bF,af];simp only[apk,aq,aER,aEN,aEL,ay,ahp,gH left qE,af,ah,aB,Fj];refine⟨⟨aer,aer,aer,aer⟩,aer,?_⟩;refine aaz _ ?_;refine(DX t32.pg g_u).mono ?_;rintro _ ME ⟨rfl,Za,p33⟩;have n33:=Za.nx;have t33:=t32.of Za p33;have QF:=WO.trans Za ael;have aho:=(Za.keep fR.nx qE (sV _ qE)).trans ahp;have ams:=aea.keep QF λb hb=>⟨Mr,sV b Mr⟩;have amo:=YP.keep QF λb hb=>⟨Im,sV b Im⟩;refine⟨⟨aer,aer,aer,aer⟩,aer,?_⟩;have ahM:∀s,ai .add none true (I left) (.int .i64 2) s=.ok (I ((left+1+1:Nat):Int)) s:=λs=>by rw[az,cO,bz qE];rfl
       rw[e5,af,ag,aET u7,bG];simp only[aq,aEN,aEL,ay,aho];refine(HC (n:=sm.n.cells.length) ams (bB _) qE (λb hb=>Mr) (dS _) Hc).mono ?_;rintro xr uK ⟨o34,k34,n34⟩;have ahn:=(k34.keep fR.nx qE (λhh=>aap)).trans aho;have amn:=amo.keep k34 λb hb=>⟨Im,λhh=>by have:=pO b hh;have:=rI b hb;omega⟩;simp only[aq,aEN,aEL,ay,ahn,ahM,af];refine(NO (n:=sm.n.kids.length) (i:=left+1) amn uG qE (λb hb=>Im) (jI _) qE).mono ?_;rintro ui PK ⟨o35,Oo,n35⟩;have aqR:=(Oo.keep fR.nx qE (λhh=>by have:=rI _ hh;omega)).trans ahn
       have Py:=(o34 (π.W++(fR.nx::F2)) (λb hb hh=>by
        have:=pO b hb;simp at hh;rcases hh with hh|hh|hh
        .exact sV b qE hh
        .omega
        .have:=rI b hh;omega)).mono (Oo.mono (by intro q hq;left;simp[hq]))
       have Px:Sl PK (π.W++[fR.nx]) ui 1 ((cJ sm.n.kids).take ((left+1)*1)++(cJ sm.n.kids).drop ((left+1+1)*1)):=o35 _ λb hb hh=>by
        have:=rI b hb;simp at hh;rcases hh with hh|hh
        .exact sV b qE hh
        .omega
       have ec:(bC sm.n.cells).take (left*4)++(bC sm.n.cells).drop ((left+1)*4)=bC (uq sm.n left).cells:=by
        rw[jQ _ _ qE,jR _ _ qE,<-gE];rfl
       have ek:(cJ sm.n.kids).take ((left+1)*1)++(cJ sm.n.kids).drop ((left+1+1)*1)=cJ (uq sm.n left).kids:=by
        rw[aGB,aGB,vx,vy,<-ny];rfl
       rw[ec]at Py;rw[ek]at Px;obtain⟨z1,z2,z3⟩:=Py.bE;obtain⟨z4,z5,z6⟩:=Px.bE;have qk:bD [.bool false,xc,xk] 1 [xr]=[.bool false,xr,xk]:=rfl;have kx:bD [.bool false,xr,xk] 2 [ui]=[.bool false,xr,ui]:=rfl;rw[aJ,aqR,aW,z3,qk];refine⟨⟨rfl,by simp[z2],uG⟩,?_⟩;rw[aJ,ar,aW,z6,kx];refine⟨⟨rfl,by simp[z5],uG⟩,⟨aer,⟨aer,aer⟩,aer⟩,aer,?_⟩;have QD:Kp [fR.nx] PK (St.set (St.set PK fR.nx (.cells [.bool false,xr,xk] 105 false)) fR.nx (.cells [.bool false,xr,ui] 105 false)):=((Kp.refl _ PK).set _ (.inl uG) qE).set _ (.inl uG) vR;have aqQ:(St.set (St.set PK fR.nx (.cells [.bool false,xr,xk] 105 false)) fR.nx (.cells [.bool false,xr,ui] 105 false)).m.g fR.nx=some (.cells [.bool (uq sm.n left).leaf,xr,ui] 105 false):=ar _ _ _;have n37:(St.set (St.set PK fR.nx (.cells [.bool false,xr,xk] 105 false)) fR.nx (.cells [.bool false,xr,ui] 105 false)).nx=PK.nx:=rfl;generalize St.set (St.set PK fR.nx (.cells [.bool false,xr,xk] 105 false)) fR.nx (.cells [.bool false,xr,ui] 105 false)=Uo at*
       have YS:IsNode Uo π.W (.agg [.bool (uq sm.n left).leaf,xr,ui]) (uq sm.n left):=
        ⟨xr,ui,rfl,(Py.mono (QD.mono (by intro q hq;left;simp at hq;simp[hq]))).dW (by intro q hq;left;simp[hq]),(Px.mono (QD.mono (by intro q hq;left;simp at hq;simp[hq]))).dW (by intro q hq;left;simp[hq])⟩
       have WN:Kp (F1++(F2++[fR.nx])) ME Uo:=((k34.mono (by intro q hq;left;simp[hq])).trans Oo (by intro q hq;left;simp[hq])).trans QD (by intro q hq;left;simp at hq;simp[hq])
       have oN:∀q∈F1++(F2++[fR.nx]),st.nx<=q:=by
        intro q hq;simp at hq;rcases hq with hq|hq|hq
        .have:=pO q hq;omega
        .have:=rI q hq;omega
        .omega
       have t37:=t33.wI WN λb hb=>eU b (oN b hb);have aqD:=(Hp.mono uG).trans QF ael;have agW:=aqD.trans WN λq hq=>.inr (oN q hq);have alH:=hst.mono agW;have aba:∀s,ai .sub none true (I (((sm::fX).length+1:Nat):Int)) (.int .i64 1) s=.ok (I ((fX.length+1:Nat):Int)) s:=e3;obtain⟨OW,Zo,Tr⟩:=alH.hi (m:=fX.length+1) uG Uo
       have Se:((sm::fX).reverse++[f]).take (fX.length+1)=fX.reverse++[sm]:=by
        rw[aGj uG];simp
       rw[Se]at Tr;rw[bG,hlen,af,aba,af,Zo,af];refine fH aqQ ?_;simp only[aFp]at j0 hm vO;refine(ih fX.length qE fX rfl t37 aaQ qE qE Tr YS qE).mono ?_;rintro _ s38 ⟨rfl,k38,G',t38,alz,oI⟩;exact⟨⟨aer,aer⟩,aer,rfl,agW.trans k38 ael,G',t38,alz,oI⟩
      .rw[aEO vI,aET u7];have eU:∀b,st.nx<=b->b∉π.all/\b≠τ:=λb hb=>⟨λhh=>by have:=ht.pg.lt b hh;omega,λe=>acL⟩;obtain⟨i,Hi,H⟩:=Sw J2 qE qE
       have Rr:cG (dG first sep second)<(dG first sep second).cells.length:=by
        have:=H.lt;unfold cG;cases fL:(dG first sep second).leaf with
        |false=>simp;omega
        |true=>
         rw[aEW rfl];have hA:=H.neA;rcases H.eqs with⟨_,e,_⟩|⟨h,_⟩
         .rw[e]at hA
          have:0<i:=by
           rcases Nat.eq_zero_or_pos i with h0|h0
           .exact absurd (by show(dG first sep second).cells.take i=[];rw[h0,aGM]) hA
           .exact h0
          omega
         .rw[fL]at h;cases h
       obtain⟨PX,YF,r_u,YG⟩:=E4 B hg.ok ja H;have BQ:(xS (dG first sep second)).2.1.length<=48:=by rw[H.key];exact(J2.cell _ (aFj ..)).key
       refine fH g31 ?_;have arJ:=Hp.fresh ht.fr;have agX:=Hp.nx;refine(Ta arJ (aec.dW uG) J2 qE Rr).mono ?_;rintro _ um ⟨xa,xb,rfl,k39,hxa,hxb⟩;generalize apP:xS (dG first sep second)=cu at*;obtain⟨a,sp,b⟩:=cu;simp only at H hxa hxb PX YF r_u YG BQ;have n39:=k39.nx;have XR:∀q∈π.W,q<zO.nx:=λq hq=>by have:=mV q hq;omega
       obtain⟨ca,ka,rfl,ya1,ya2⟩:=hxa π.W XR;obtain⟨cb,kb,rfl,yb1,yb2⟩:=hxb π.W XR;have za2:=ya1.bE.2.1;have zb2:=ya2.bE.2.1;have zc2:=yb1.bE.2.1;have zd2:=yb2.bE.2.1;have yy:(St.new um (.cells [.bool false,.ae,.ae] 105 false)).nx=um.nx+1:=rfl;rw[aE,af,aN,aE,af,aN,aN,aE,af,cH,aS,cH,aS,yy];have kA:Kp [] um (St.new (St.new um (.cells [.bool false,.ae,.ae] 105 false)) (.cells [.bool false,.ae,.ae] 105 false)):=((Kp.refl [] um).new _).new _;have gA1:(St.new (St.new um (.cells [.bool false,.ae,.ae] 105 false)) (.cells [.bool false,.ae,.ae] 105 false)).m.g um.nx=some (.cells [.bool false,.ae,.ae] 105 false):=(bg _ _ _ uG).trans (ao _ _);have gA2:(St.new (St.new um (.cells [.bool false,.ae,.ae] 105 false)) (.cells [.bool false,.ae,.ae] 105 false)).m.g (um.nx+1)=some (.cells [.bool false,.ae,.ae] 105 false):=ao (St.new um (.cells [.bool false,.ae,.ae] 105 false)) _;have nA:(St.new (St.new um (.cells [.bool false,.ae,.ae] 105 false)) (.cells [.bool false,.ae,.ae] 105 false)).nx=um.nx+2:=rfl;generalize St.new (St.new um (.cells [.bool false,.ae,.ae] 105 false)) (.cells [.bool false,.ae,.ae] 105 false)=YA at*;rw[aJ,gA1,aW,aT,JS _ _ _ _ rfl];refine⟨⟨rfl,by simp[za2,zb2],uG⟩,?_⟩;rw[aJ,al _ _ _ _ qE,gA2,aW,aT,JS _ _ _ _ rfl];refine⟨⟨rfl,by simp[zc2,zd2],uG⟩,?_⟩;have kB:Kp [] um (St.set (St.set YA um.nx (.cells [.bool a.leaf,ca,ka] 105 false)) (um.nx+1) (.cells [.bool b.leaf,cb,kb] 105 false)):=(kA.set _ (.inr (aEQ _)) qE).set _ (.inr qE) vR;have gB1:(St.set (St.set YA um.nx (.cells [.bool a.leaf,ca,ka] 105 false)) (um.nx+1) (.cells [.bool b.leaf,cb,kb] 105 false)).m.g um.nx=some (.cells [.bool a.leaf,ca,ka] 105 false):=(al _ _ _ _ qE).trans (ar _ _ _);have gB2:(St.set (St.set YA um.nx (.cells [.bool a.leaf,ca,ka] 105 false)) (um.nx+1) (.cells [.bool b.leaf,cb,kb] 105 false)).m.g (um.nx+1)=some (.cells [.bool b.leaf,cb,kb] 105 false):=ar _ _ _
       have nB:(St.set (St.set YA um.nx (.cells [.bool a.leaf,ca,ka] 105 false)) (um.nx+1) (.cells [.bool b.leaf,cb,kb] 105 false)).nx=um.nx+2:=nA;generalize St.set (St.set YA um.nx (.cells [.bool a.leaf,ca,ka] 105 false)) (um.nx+1) (.cells [.bool b.leaf,cb,kb] 105 false)=Tl at*;have Lq:=k39.trans kB uG;have agV:=Hp.trans Lq uG;have t43:=ht.still agV;have ahm:=(Lq.keep fR.nx qE uG).trans aaJ;have amE:IsNode Tl π.W (.agg [.bool a.leaf,ca,ka]) a:=⟨ca,ka,rfl,ya1.mono (kB.mono uG),ya2.mono (kB.mono uG)⟩;have amC:IsNode Tl π.W (.agg [.bool b.leaf,cb,kb]) b:=⟨cb,kb,rfl,yb1.mono (kB.mono uG),yb2.mono (kB.mono uG)⟩;obtain⟨pa1,RJ,aaA⟩:=wO left pf B.QB Tl (Lq.mono uG);simp only[bG,af,ahm,aq,aEN,aEL,ay,RJ];refine aaA _ ?_;refine fH gB1 ?_;refine(lW t43 B.u1 (amE.dW uG) H.Ol H.szA).mono ?_;rintro _ PJ ⟨rfl,WM,t44⟩;have n44:=WM.nx;have auQ:=agV.nx;have ahl:=(WM.keep fR.nx qE (sV _ qE)).trans ahm;have arl:=(WM.keep (um.nx+1) qE (sV _ qE)).trans gB2;refine⟨⟨aer,aer,aer,aer⟩,aer,?_⟩;have WQ:=(Lq.mono uG).trans WM ael;obtain⟨pa2,Fj,aaz⟩:=wO (left+1) pn B.UY PJ WQ;simp only[e5,ag,aEM,aFa,af,ahl,aq,aEN,aEL,ay,gH left qE,Fj];refine aaz _ ?_;refine fH arl ?_;refine(lW t44 r_u ((amC.mono WM).dW uG) H.okB H.szB).mono ?_;rintro _ Fb ⟨rfl,U1,t45⟩;have n45:=U1.nx;have ahk:=(U1.keep fR.nx qE (sV _ qE)).trans ahl;have QE:=WQ.trans U1 ael;have amr:=aea.keep QE λb hb=>⟨Mr,sV b Mr⟩;have amm:=YP.keep QE λb hb=>⟨Im,sV b Im⟩;refine⟨⟨aer,aer,aer,aer⟩,aer,?_⟩;have nD:bk [.str [],.str [],.int .i64 0,.int .i64 0] [(0,1,.str sp)] Fb=.ok (.agg (aU (fW sp))) Fb:=rfl;simp only[e5,ag,aEM,aFa,af,ahk,aq,aEN,aEL,ay,nD];obtain⟨bc,rfl,wS,are⟩:=kZ amr qE (bB _) qE
       have hbc:=pO bc (by simp[wS])
       have Xx:cc 4 (.slice bc 0 sm.n.cells.length sm.n.cells.length 4) (I left) Fb=.ok (.ptr bc (left*4)) Fb:=by
        have:=fO (size:=4) (off:=0) (cap:=sm.n.cells.length) (grow:=4) Hc (.inr (aEQ _)) Fb (b:=bc)
        rwa [aER]at this
       have QY:bD (bC sm.n.cells) (left*4) (aU (fW sp))=bC (jE sm.n left sp).cells:=by
        unfold bC;rw[tO (fp _) _ (by simpa using Hc) _ rfl];unfold jE;rw[aGF,aEW (by simpa using Hc)];simp[aGx,aGl]
       unfold Ew;rw[Xx,af,aJ,are,aW,aT,QY];refine⟨⟨rfl,rfl,Yk⟩,?_⟩;have k46:Kp [bc] Fb (St.set Fb bc (.cells (bC (jE sm.n left sp).cells) 109 true)):=(Kp.refl _ Fb).set _ (.inl uG) qE;have ard:(St.set Fb bc (.cells (bC (jE sm.n left sp).cells) 109 true)).m.g bc=some (.cells (bC (jE sm.n left sp).cells) 109 true):=ar _ _ _;have n46:(St.set Fb bc (.cells (bC (jE sm.n left sp).cells) 109 true)).nx=Fb.nx:=rfl;generalize St.set Fb bc (.cells (bC (jE sm.n left sp).cells) 109 true)=Un at*;have aqP:Un.m.g fR.nx=some (.cells [.bool (jE sm.n left sp).leaf,.slice bc 0 sm.n.cells.length sm.n.cells.length 4,xk] 105 false):=(k46.keep fR.nx qE vR).trans ahk;have Sk:(jE sm.n left sp).cells.length=sm.n.cells.length:=by unfold jE;simp;omega
       have aml:=amm.keep k46 λb hb=>⟨Im,by have:=rI b hb;simp;omega⟩
       have YR:IsNode Un π.W (.agg [.bool (jE sm.n left sp).leaf,.slice bc 0 sm.n.cells.length sm.n.cells.length 4,xk]) (jE sm.n left sp):=
        ⟨_,_,rfl,.inr ⟨bc,0,_,_,4,rfl,by rw[bB,Sk],⟨aEQ _,.inr rfl⟩,.inr ⟨sV _ qE,qE,_,_,_,ard,abM,abP⟩⟩,aml.sl λb hb=>⟨sV b Im,Im⟩⟩
       have t46:=t45.wI k46 λb hb=>eU b (by simp at hb;omega);have aqC:=(Hp.mono uG).trans QE ael;have agU:=aqC.trans k46 λq hq=>.inr (by simp at hq;omega);have alG:=hst.mono agU;have aba:∀s,ai .sub none true (I (((sm::fX).length+1:Nat):Int)) (.int .i64 1) s=.ok (I ((fX.length+1:Nat):Int)) s:=e3;obtain⟨OW,Zo,Tr⟩:=alG.hi (m:=fX.length+1) uG Un
       have Se:((sm::fX).reverse++[f]).take (fX.length+1)=fX.reverse++[sm]:=by
        rw[aGj uG];simp
       rw[Se]at Tr;simp only[hlen,af,aba,Zo];refine fH aqP ?_;simp only[aFp]at j0 hm vO;refine(ih fX.length qE fX rfl t46 PX qE qE Tr YR qE).mono ?_;rintro _ s47 ⟨rfl,k47,G',t47,aly,oI⟩;exact⟨⟨aer,aer⟩,aer,rfl,agU.trans k47 ael,G',t47,aly,oI⟩
def LZ {rest:List cK}{f:cK}{n:bp}{h:Nat}{x v:CV}{LL:List bq}(ht:Tg τ π st G)(hg:za G h f.page rest n LL)(hsz:n.size<=640)(j0:rest.length+2<=G.cF)
 (hst:eu st π.W x (rest.reverse++[f])) (hv:IsNode st π.W v n) (vO:rest.length<=16):R 52 [.ptr τ 0,x,v] st (Dm τ π G LL st):=Sr rest.length rest rfl ht hg hsz j0 hst hv vO
end
