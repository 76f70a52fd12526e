import Derived.Test.YtomffjeofpafnaaGreatDoorBtB
namespace Lim
open Go
noncomputable section
set_option maxRecDepth 100000
section
variable {τ:Nat} {π:PI} {st st':St} {G:GM}
theorem yu {n:aZ}(h:n.ok)(hs:128<=n.size):n.leaf=true\/n.cells≠[]:=by
 by_cases hc:n.cells=[]
 ·cases fp:n.leaf with
  |true=>exact .inl rfl
  |false=>
   exfalso;have hk:=h.iQ;rw[fp,aAZ (by decide),hc]at hk;have h2:=pz h.By;rw[bS,fp,hc]at hs;have h3:(uv ([]:List da).length).length=1:=ey (by simp);simp only[aAR,aBf]at hs;simp only[aCu]at hk;rw[hk]at h2;have h4:(cJ false []).length=0:=rfl;omega
 ·exact .inr hc
structure TL (τ:Nat)(π:PI)(st:St)(G:GM)(h:Nat)(sm:cE)(rest:List cE)(LL:List bB)(x:CV)(b53:Nat)(vs:List CV)(s:St)(left:Nat)(first second:aZ)(sep:bZ)(pf pn:Nat)(aE:List Nat)(d:sX)(Vm Vl:Nat)(cf kf cs ks vcp vkp:CV):Prop where
 vs:vs=[.ptr τ 0,x, .ptr b53 0, .ptr Vm 0, .ptr Vl 0,I left]
 kp:Kp [] st s
 lt:b53<s.next/\Vm<s.next/\Vl<s.next
 ge:st.next<=b53/\st.next<=Vm/\st.next<=Vl
 g53:s.mem.get b53=some (.cells [I sm.page,I sm.at_, .bool false,vcp,vkp] 107 false)
 g68:s.mem.get Vm=some (.cells [.bool first.leaf,cf,kf] 105 false)
 g69:s.mem.get Vl=some (.cells [.bool second.leaf,cs,ks] 105 false)
 n1:IsNode s π.W (.agg [.bool first.leaf,cf,kf]) first
 n2:IsNode s π.W (.agg [.bool second.leaf,cs,ks]) second
 np:Sl s π.W vcp 4 (bj sm.n.cells)/\Sl s π.W vkp 1 (bU sm.n.kids)
 bes:uy G h sm rest left first second sep pf pn LL aE d
 nd:aE.Nodup
 size:first.size+second.size<=700
theorem PW:∀(m:Nat) (rest:List cE),rest.length=m->∀{st:St} {G:GM} {f:cE} {n:aZ} {h:Nat} {x v:CV} {LL:List bB},Tg τ π st G->xJ G h f.page rest n LL->n.size<=640->rest.length+2<=G.ck->
 dN st π.W x (rest.reverse++[f])->IsNode st π.W v n->rest.length<=16->R 52 [.ptr τ 0,x,v] st (BX τ π G LL st):=by
 intro m
 induction m using Nat.strongRecOn with
 |_ m ih=>
  intro rest hm st G f n h x v LL ht hg hsz jy hst hv vu;have mu:=ht.LR;have rH:∀q,st.next<=q->q∉π.W:=fun q hq hh=>by have:=mu q hh;omega
  have yc:=hv;obtain⟨vc,vk,rfl,Me,JC⟩:=hv
  have oF:n.cells.length<=640:=by
   have:=dZ n.leaf n.cells;rw[bS]at hsz;omega
  refine bO ?_;rw[w52];rw[cr,aU];refine⟨rfl, ?_⟩;have k1:Kp [] st (St.new st (.cells [.bool n.leaf,vc,vk] 105 false)):=(Kp.refl [] st).new _;have g1:(St.new st (.cells [.bool n.leaf,vc,vk] 105 false)).mem.get st.next=some (.cells [.bool n.leaf,vc,vk] 105 false):=aq _ _;have n1:(St.new st (.cells [.bool n.leaf,vc,vk] 105 false)).next=st.next+1:=rfl;generalize St.new st (.cells [.bool n.leaf,vc,vk] 105 false)=s1 at*;have gh:=hst.mono (k1.mono (by simp));have tH:(rest.reverse++[f]).length=rest.length+1:=by simp
  have e3:∀s,aj .sub none true (I ((rest.length+1:Nat):Int)) (.int .i64 1) s= .ok (I rest.length) s:=fun s=>by
   have:=tV (rest.length+1) (by omega) (by omega) s none
   rwa [aCc]at this
  obtain⟨yk,yj,c1,c2,gw⟩:=gh.row (i:=rest.length) (by simp);have hf:(rest.reverse++[f])[rest.length]'(by simp)=f:=by simp
  rw[hf]at c1 c2 gw;have hlen:=fun s=>hst.len s;rw[tH]at hlen;simp only[hlen,af,e3];refine gw _ ?_;refine jY c1.bu.2.1 c2.bu.2.1 ?_;have k3:Kp [] s1 (St.new s1 (.cells [I f.page,I f.at_, .bool f.n.leaf,yk,yj] 107 false)):=(Kp.refl [] s1).new _;have g3:(St.new s1 (.cells [I f.page,I f.at_, .bool f.n.leaf,yk,yj] 107 false)).mem.get s1.next=some (.cells [I f.page,I f.at_, .bool f.n.leaf,yk,yj] 107 false):=aq _ _;have n3:(St.new s1 (.cells [I f.page,I f.at_, .bool f.n.leaf,yk,yj] 107 false)).next=s1.next+1:=rfl;generalize St.new s1 (.cells [I f.page,I f.at_, .bool f.n.leaf,yk,yj] 107 false)=s3 at*;have jf:Kp [] st s3:=k1.trans k3 (by simp);have nH:=(k3.keep st.next (by omega) (by simp)).trans g1;have YZ:=gh.mono (k3.mono (by simp));have t3:=ht.still jf;have v3:IsNode s3 π.W (.agg [.bool n.leaf,vc,vk]) n:=yc.mono (jf.mono (by simp));have e4:aj .eql (some .int) true (I ((rest.length+1:Nat):Int)) (.int .i64 1) s3= .ok (.bool (decide (rest.length=0))) s3:=by rw[av,cB];congr 2;simp only[aBu];omega
  have e5:∀s,aj .neq (some .int) true (I 0) (.int .i64 0) s= .ok (.bool false) s:=fun s=>rfl;simp only[hlen,af,e4,ag];have SI:∀s,Kp [] st s->bo .slice vc s= .ok (I n.cells.length) s:=fun s hs=>(Me.mono (hs.mono (by simp))).len n.cells.length (br _) (by omega) s
  have FQ:∀s,Kp [] st s->(n.leaf=true\/n.cells≠[])->R 104 [.ptr τ 0,x, .agg [.bool n.leaf,vc,vk]] s fun y s'=>BX τ π G LL st y s':=by
   intro s hs iR;refine(aah (ht.still hs) hg iR hsz jy (hst.mono (hs.mono (by simp))) (yc.mono (hs.mono (by simp))) vu).mono ?_;rintro y s' ⟨rfl,k',G',t',to',sG⟩;exact⟨rfl,(hs.mono (by simp)).trans k' fun q hq=> .inl hq,G',t',to',sG⟩
  obtain⟨lo,hi,Ll,Lr,L,ps,q,vD,jT,iL,QZ⟩:=hg.ctx;cases rest with
  |nil=>
   rw[aBb (show decide (([]:List cE).length=0)=true from rfl)];obtain⟨_,rfl,rfl,rfl,rfl,rfl⟩:=(show f.page=G.root/\lo=[]/\hi=none/\Ll=[]/\Lr=[]/\ps=[]from vD);have ez:∀s,aj .eql (some .int) true (I n.cells.length) (.int .i64 0) s= .ok (.bool (decide (n.cells.length=0))) s:=fun s=>by rw[av,cB];congr 2;simp only[aBu];omega
   simp only[fl,ah,af,az,nH,ar,aAT,aAQ,au];simp only[aBw,aBQ]at QZ iL;rw[aBi]at iL;cases fp:n.leaf with
   |true=>
    rw[fp]at nH FQ;simp only[aG,aBr,iU,bh,ah,af,az,nH,ar,aAT,aAS,aAQ,au,SI s3 jf,ez,aF,ag,du,aBm,aAR,aBf,cc]
    by_cases h0:n.cells.length=0
    ·rw[aBc h0,aBb rfl];refine t3.get' ?_;refine(pe t3.pg 0 (.inl rfl)).mono ?_;rintro _ s4 ⟨rfl,k4,p4⟩;have t4:=t3.of k4 p4;have Q0:=(k4.keep s1.next (by omega) (rH _ (by omega))).trans g3;simp only[e5,af,ag,aAR,aBf,bG,az,Q0,ar,aAQ,au];obtain⟨ty,g,hg4⟩:=t4.get;simp only[bA,ah,af,az,hg4,Q0,ar,aAT,aAQ,au];refine(CA t4.pg (n:=f.page) hg.bL).mono ?_;rintro _ s5 ⟨rfl,k5,p5⟩
     have hL0:LL=[]:=by
      rw[<-QZ];obtain⟨_,c⟩:n.cells=[]/\True:=⟨aBn.1 h0,trivial⟩;have acx:=jT.leaf;cases h with
      |zero=>
       obtain⟨_,_,XS,_⟩:=jT;rw[aBn.1 h0]at XS;exact XS.1
      |succ h=>rw[fp]at acx;cases acx
     exact⟨⟨trivial,trivial,trivial⟩,trivial,rfl,(((jf.mono (by simp)).trans k4 fun q hq=> .inl hq).trans k5 fun q hq=> .inl hq),_,t4.of k5 p5,⟨(sM (hg.ok.gD 0) hg.bL).ok, .inl ⟨rfl,hL0⟩⟩,rfl⟩
    ·rw[aAW h0,aAZ (by decide)];rw[aO (n:=3) nH rfl,af];exact FQ s3 jf (.inl rfl)
   |false=>
    rw[fp]at nH FQ;simp only[aG,aBr,iU,bh,cc,ah,af,az,nH,ar,aAT,aAS,aAQ,au,SI s3 jf,ez,aF,ag,du,aBk,aAR,aBf]
    by_cases h0:n.cells.length=0
    ·rw[aBc h0,aBb rfl];have hce:n.cells=[]:=aBn.1 h0;cases h with
     |zero=>have:=jT.leaf;rw[fp]at this;cases this
     |succ h=>
      obtain⟨_,Dn⟩:=jT;have GL:=Dn.len;have hse:n.eY=[]:=by unfold aZ.eY;rw[hce];rfl
      rw[hse]at Dn GL;obtain⟨kk,GN⟩:∃kk,n.kids=[kk]:=List.length_eq_one_iff.1 (by simpa using GL);rw[GN,bW.one]at Dn;obtain⟨_,te⟩:=Dn;have hku:G.bL kk:=by obtain⟨nn,qq,Dk,_⟩:=te;exact Dk.bL
      have XC:=JC.mono (jf.mono (by simp));rw[GN]at XC;obtain⟨ty,g,hg3⟩:=t3.get;have UM:∀K:CV->Prop,K (I kk)->Lim.idx 1 vk (I ((0:Nat):Int)) s3 K:=fun K hK=>XC.idx (i:=0) (by simp) K hK
      have alD:∃p,cU 1 vk (.int .i64 0) s3= .ok p s3/\∀K:CV->Prop,K (I kk)->us (aC p s3) K:=by
       obtain⟨b,p,l,t,g,q1,q2,q3,q4,q5⟩:=(show Sl s3 π.W vk 1 ([[I kk]]:List (List CV)).flatten from XC).cellAt (by omega) (by simp) (i:=0) (by simp);refine⟨_,q1 s3,fun K hK=> ?_⟩;have:=q5 0 (I kk) rfl;rw[aBJ]at this;rw[az,q2,ar,this];exact hK
      obtain⟨p,Zs,HY⟩:=alD;simp only[bG,bA,ah,af,az,hg3,nH,ar,aAT,aAS,aAQ,au,Zs];refine HY _ ?_;refine(pe t3.pg kk (.inr hku)).mono ?_;rintro _ s6 ⟨rfl,k6,p6⟩;have t6:=t3.of k6 p6;have g36:=(k6.keep s1.next (by omega) (rH _ (by omega))).trans g3;obtain⟨ty6,gg6,hg6⟩:=t6.get;simp only[e5,af,ag,aAR,aBf,az,hg6,g36,ar,aAQ,au,aCV];refine(CA t6.pg (n:=f.page) hg.bL).mono ?_;rintro _ s7 ⟨rfl,k7,p7⟩;have hD:=sM (hg.ok.gD kk) hg.bL;refine⟨rfl,(((jf.mono (by simp)).trans k6 fun q hq=> .inl hq).trans k7 fun q hq=> .inl hq),_,t6.of k7 p7,⟨hD.ok, .inr ⟨h,q,iL.2, ?_⟩⟩,rfl⟩;rw[<-QZ];exact(show Sub G h kk [] none L q from te).kept fun z hz=>⟨fun hu=>(hD.bL z).2 ⟨hu,fun e=>iL.1 (e▸hz)⟩,rfl⟩
    ·rw[aAW h0,aAZ (by decide)];rw[aO (n:=3) nH rfl,af];exact FQ s3 jf (.inr fun e=>h0 (by rw[e];rfl))
  |cons sm fM=>
   rw[aAZ (show¬decide ((sm::fM).length=0)=true by simp)];refine fx nH ?_;refine(xR t3.fr (v3.ef (by simp)) hg.HM (by omega)).mono ?_;rintro _ s9 ⟨rfl,k9⟩;have Xz:Kp [] st s9:=jf.trans k9 (by simp);have n9:=k9.next;have Vh:=(k9.keep st.next (by omega) (by simp)).trans nH;have e6:aj .geq none true (I n.size) (.int .i64 128) s9= .ok (.bool (decide (128<=n.size))) s9:=by rw[av,rl];congr 2;simp only[aBu];omega
   rw[e6,af,ag]
   by_cases Yb:128<=n.size
   ·rw[aBc Yb,aBb rfl];refine fx Vh ?_;exact FQ s9 Xz (yu hg.HM Yb)
   ·rw[aAW Yb,aAZ (by decide)];have U0:=vD;obtain⟨_,_,_,_,_,_,_,_,_,_,KX,WO,aly,_⟩:=vD
    have abM:sm.n.cells.length<=512:=by
     have:=dZ sm.n.leaf sm.n.cells;have:=KX.size;rw[bS]at this;omega
    have WQ:=KX.ok.iQ;rw[WO,aAZ (by decide)]at WQ;obtain⟨wz,_⟩:=aBg.1 aly
    have mV:2<=sm.n.kids.length:=by
     rcases KX.full with h|h
     ·rw[WO]at h;cases h
     ·have:=aDd.2 h;omega
    have st9:=hst.mono (Xz.mono (by simp))
    have e7:aj .sub none true (I (((sm::fM).length+1:Nat):Int)) (.int .i64 2) s9= .ok (I fM.length) s9:=by
     rw[av,dJ,aBt,bD (by simp at vu;omega)];congr 2;omega
    obtain⟨pM,mH,d1,d2,Fb⟩:=st9.row (i:=fM.length) (by simp);have XN:((sm::fM).reverse++[f])[fM.length]'(by simp)=sm:=by simp
    rw[XN,WO]at Fb;rw[XN]at d1 d2;rw[e7,af];refine Fb _ ?_;refine jY d1.bu.2.1 d2.bu.2.1 ?_;have qI:Kp [] s9 (St.new s9 (.cells [I sm.page,I sm.at_, .bool false,pM,mH] 107 false)):=(Kp.refl [] s9).new _;have sH:(St.new s9 (.cells [I sm.page,I sm.at_, .bool false,pM,mH] 107 false)).mem.get s9.next=some (.cells [I sm.page,I sm.at_, .bool false,pM,mH] 107 false):=aq _ _;have Od:(St.new s9 (.cells [I sm.page,I sm.at_, .bool false,pM,mH] 107 false)).next=s9.next+1:=rfl;generalize St.new s9 (.cells [I sm.page,I sm.at_, .bool false,pM,mH] 107 false)=bY at*;have Dq:Kp [] st bY:=Xz.trans qI (by simp);have aod:=(qI.keep st.next (by omega) (by simp)).trans Vh;have Yz:=d2.mono (qI.mono (by simp));have d1':=d1.mono (qI.mono (by simp));have acv:=Yz.len sm.n.kids.length (by simp) (by omega) bY;simp only[fl,ah,af,az,sH,ar,aAT,Nat.reduceAdd,aAS,aAQ,au,ik sm.at_ (by omega)];refine jU (fun vs s=>bY=s/\∃beside:Nat,vs=[.ptr τ 0,x, .ptr st.next 0, .ptr s9.next 0,I sm.at_,I beside]/\((beside=sm.at_+1/\sm.at_+1<sm.n.kids.length)\/(sm.at_=beside+1/\sm.at_+1=sm.n.kids.length))) ?_ ?_
    ·intro k' FA;have e8:aj .eql (some .int) false (I ((sm.at_+1:Nat):Int)) (I sm.n.kids.length) bY= .ok (.bool (decide (sm.at_+1=sm.n.kids.length))) bY:=by rw[av,cB];congr 2;simp only[aBu];omega
     simp only[acv,af,e8,ag]
     by_cases Ft:sm.at_+1=sm.n.kids.length
     ·rw[aBc Ft,aBb rfl,tV sm.at_ (by omega) (by omega),af];exact FA _ _ ⟨rfl,sm.at_-1,rfl, .inr ⟨by omega,Ft⟩⟩
     ·rw[aAW Ft,aAZ (by decide)];exact FA _ _ ⟨rfl,sm.at_+1,rfl, .inl ⟨rfl,by omega⟩⟩
    ·rintro _ _ ⟨rfl,beside,rfl,Mf⟩
     have hB:∃(other:aZ) (po left:Nat) (first second:aZ) (sep:bZ) (pf pn:Nat) (d:sX),mF G po other/\sm.n.kids[beside]?=some po/\uy G h sm fM left first second sep pf pn (Ll++(L++Lr)) (f.page::(q++ps)) d/\
      ((beside=sm.at_+1/\left=sm.at_/\first=n/\second=other)\/(sm.at_=beside+1/\left=beside/\first=other/\second=n)):=by
      rcases Mf with⟨e,hlt⟩|⟨e,hlt⟩
      ·obtain⟨other,pn,sep,d,x1,x2⟩:=Kq U0 hg.bL hg.HM jT hlt;exact⟨other,pn,_,_,_,sep,_,pn,d,x1,by rw[e];exact x2.Sd,x2, .inl ⟨e,rfl,rfl,rfl⟩⟩
      ·obtain⟨other,pf,sep,d,x1,x2⟩:=Nk U0 hg.bL hg.HM jT e;exact⟨other,pf,_,_,_,sep,pf,_,d,x1,x2.Oj,x2, .inr ⟨e,rfl,rfl,rfl⟩⟩
     obtain⟨other,po,left,first,second,sep,pf,pn,d,qJ,hkb,X0,abP⟩:=hB;rw[QZ]at X0;obtain⟨tk,hbe⟩:=aBg.1 hkb;simp only[aK,aL,ah,af,az,sH,ar,aAT,Nat.reduceAdd,aAS,aAQ,au];refine Yz.idx (i:=beside) (by simpa using tk) _ ?_;have e9:(bU sm.n.kids)[beside]'(by simpa using tk)=I po:=by simp[bU,hbe]
     rw[e9];refine(yn (ht.still Dq) qJ).mono ?_;rintro _ fe ⟨xo,rfl,zd,hxo⟩;have n14:=zd.next;have U7:∀b∈π.W,b<bY.next:=fun b hb=>by have:=mu b hb;have:=Dq.next;omega
     obtain⟨DX,DW,rfl,o1,o2⟩:=hxo π.W U7;simp only[aD,aJ,af];refine qb o1.bu.2.1 o2.bu.2.1 ?_;have E7:Kp [] fe (St.new fe (.cells [.bool other.leaf,DX,DW] 105 false)):=(Kp.refl [] fe).new _;have GU:(St.new fe (.cells [.bool other.leaf,DX,DW] 105 false)).mem.get fe.next=some (.cells [.bool other.leaf,DX,DW] 105 false):=aq _ _;have n16:(St.new fe (.cells [.bool other.leaf,DX,DW] 105 false)).next=fe.next+1:=rfl;generalize St.new fe (.cells [.bool other.leaf,DX,DW] 105 false)=cD at*;have qH:Kp [] bY cD:=zd.trans E7 (by simp);have aex:=(qH.keep st.next (by have:=Dq.next;omega) (by simp)).trans aod;have Vf:=(qH.keep s9.next (by omega) (by simp)).trans sH;rw[e5,af,ag,aAZ (by decide),bG];have yy:(St.new cD (.cells [.bool false, .ae, .ae] 105 false)).next=cD.next+1:=rfl;have kA:Kp [] cD (St.new (St.new cD (.cells [.bool false, .ae, .ae] 105 false)) (.cells [.bool false, .ae, .ae] 105 false)):=((Kp.refl [] cD).new _).new _;have ZN:(St.new (St.new cD (.cells [.bool false, .ae, .ae] 105 false)) (.cells [.bool false, .ae, .ae] 105 false)).mem.get cD.next=some (.cells [.bool false, .ae, .ae] 105 false):=(aW _ _ _ (by simp)).trans (aq _ _);have ZM:(St.new (St.new cD (.cells [.bool false, .ae, .ae] 105 false)) (.cells [.bool false, .ae, .ae] 105 false)).mem.get (cD.next+1)=some (.cells [.bool false, .ae, .ae] 105 false):=aq (St.new cD (.cells [.bool false, .ae, .ae] 105 false)) _;have nA:(St.new (St.new cD (.cells [.bool false, .ae, .ae] 105 false)) (.cells [.bool false, .ae, .ae] 105 false)).next=cD.next+2:=rfl;rw[yy];generalize St.new (St.new cD (.cells [.bool false, .ae, .ae] 105 false)) (.cells [.bool false, .ae, .ae] 105 false)=sA at*;have acJ:Kp [] st cD:=Dq.trans qH (by simp);have aqv:=acJ.next;have HZ:∀(y:List CV) a b c,y.length=3->bt y 0 [a,b,c]=[a,b,c]:=fun y a b c hy=>dV _ _ (by simp[hy]);have g1A:=(kA.keep st.next (by omega) (by simp)).trans aex;have aer:=(kA.keep fe.next (by omega) (by simp)).trans GU
     have axJ:=(kA.keep s9.next (by have:=qH.next;omega) (by simp)).trans Vf;obtain⟨q1,q2,q3⟩:=Me.bu;obtain⟨q4,q5,q6⟩:=JC.bu;obtain⟨q7,q8,q9⟩:=o1.bu;obtain⟨q10,q11,q12⟩:=o2.bu;rw[aO (n:=3) g1A rfl,af,aO (n:=3) aer rfl,af,jq ZN,aT,jq ZM,aT,aH,ZN,aS,aU,HZ _ _ _ _ rfl];refine⟨⟨rfl,by simp[q2,q5],by simp⟩, ?_⟩;rw[aH,ak _ _ _ _ (by omega),ZM,aS,aU,HZ _ _ _ _ rfl];refine⟨⟨rfl,by simp[q8,q11],by simp⟩, ?_⟩;have anS:(St.set sA cD.next (.cells [.bool n.leaf,vc,vk] 105 false)).mem.get fe.next=_:=(ak _ _ _ _ (by omega)).trans aer;rw[aO (n:=3) anS rfl,af];refine⟨⟨trivial,⟨rfl,trivial⟩,trivial,trivial,trivial⟩,trivial, ?_⟩;have kC:Kp [] cD (St.set (St.set sA cD.next (.cells [.bool n.leaf,vc,vk] 105 false)) (cD.next+1) (.cells [.bool other.leaf,DX,DW] 105 false)):=(kA.set _ (.inr (aAU _)) (by omega)).set _ (.inr (by omega)) (by simp;omega);have gC1:(St.set (St.set sA cD.next (.cells [.bool n.leaf,vc,vk] 105 false)) (cD.next+1) (.cells [.bool other.leaf,DX,DW] 105 false)).mem.get cD.next=some (.cells [.bool n.leaf,vc,vk] 105 false):=(ak _ _ _ _ (by omega)).trans (ao _ _ _);have gC2:(St.set (St.set sA cD.next (.cells [.bool n.leaf,vc,vk] 105 false)) (cD.next+1) (.cells [.bool other.leaf,DX,DW] 105 false)).mem.get (cD.next+1)=some (.cells [.bool other.leaf,DX,DW] 105 false):=ao _ _ _;have nC:(St.set (St.set sA cD.next (.cells [.bool n.leaf,vc,vk] 105 false)) (cD.next+1) (.cells [.bool other.leaf,DX,DW] 105 false)).next=cD.next+2:=nA;generalize St.set (St.set sA cD.next (.cells [.bool n.leaf,vc,vk] 105 false)) (cD.next+1) (.cells [.bool other.leaf,DX,DW] 105 false)=jn at*;have SM:Kp [] st jn:=acJ.trans kC (by simp);have ze:Kp [] bY jn:=qH.trans kC (by simp);have aew:=(kC.keep st.next (by omega) (by simp)).trans aex;have aes:=(kC.keep fe.next (by omega) (by simp)).trans GU;have Ve:=(kC.keep s9.next (by have:=qH.next;omega) (by simp)).trans Vf;have ajn:IsNode jn π.W (.agg [.bool n.leaf,vc,vk]) n:=yc.mono (SM.mono (by simp))
     have ajm:IsNode jn π.W (.agg [.bool other.leaf,DX,DW]) other:=⟨DX,DW,rfl,(o1.mono (E7.mono (by simp))).mono (kC.mono (by simp)),(o2.mono (E7.mono (by simp))).mono (kC.mono (by simp))⟩;have Zt:=qJ.size;refine jU (fun vs s=>∃Vm Vl cf kf cs ks,TL τ π st G h sm fM LL x s9.next vs s left first second sep pf pn (f.page::(q++ps)) d Vm Vl cf kf cs ks pM mH) ?_ ?_
     ·intro k72 acI;rw[dM,af,ag];rcases abP with⟨x1,rfl,rfl,rfl⟩|⟨x1,rfl,rfl,rfl⟩
      ·rw[aAW (by omega),aAZ (by decide)];exact acI _ _ ⟨_,_,vc,vk,DX,DW,rfl,SM,⟨by omega,by omega,by omega⟩,⟨by omega,by omega,by omega⟩,Ve,gC1,gC2,ajn,ajm,⟨d1'.mono (ze.mono (by simp)),Yz.mono (ze.mono (by simp))⟩,X0,iL,by omega⟩
      ·rw[aBc (by omega),aBb rfl,bG,aO (n:=3) aes rfl,af,aO (n:=3) aew rfl,af,aH,gC1,aS,aU,HZ _ _ _ _ rfl];refine⟨⟨rfl,by simp[q8,q11],by simp⟩, ?_⟩;rw[aH,ak _ _ _ _ (by omega),gC2,aS,aU,HZ _ _ _ _ rfl];refine⟨⟨rfl,by simp[q2,q5],by simp⟩, ?_⟩;have g1B:(St.set jn cD.next (.cells [.bool first.leaf,DX,DW] 105 false)).mem.get st.next=_:=(ak _ _ _ _ (by omega)).trans aew;rw[aO (n:=3) g1B rfl,af];refine⟨⟨trivial,⟨rfl,trivial⟩,trivial⟩,trivial, ?_⟩;have kE:Kp [cD.next,cD.next+1] jn (St.set (St.set jn cD.next (.cells [.bool first.leaf,DX,DW] 105 false)) (cD.next+1) (.cells [.bool second.leaf,vc,vk] 105 false)):=((Kp.refl _ jn).set (p:=cD.next) _ (.inl (by simp)) (by omega)).set (p:=cD.next+1) _ (.inl (by simp)) (by simp;omega);have nn2:=(yc.ef (Y:=π.W++[cD.next,cD.next+1]) (by intro b hb;simp at hb;rcases hb with h|h|h;exact .inl h;right;omega;right;omega)).mono (SM.mono (by simp));have oo1:=(((hxo (π.W++[]) (by simpa using U7)).ef (Y:=π.W++[cD.next,cD.next+1]) (by intro b hb;simp at hb⊢;rcases hb with h|h|h;exact .inl h;right;omega;right;omega)).mono (E7.mono (by simp))).mono (kC.mono (by simp));have S8:∀b∈[cD.next,cD.next+1],b∈π.W++[cD.next,cD.next+1]\/jn.next<=b:=fun b hb=> .inl (by simp at hb⊢;rcases hb with h|h<;>simp[h]);refine acI _ _ ⟨cD.next,cD.next+1,DX,DW,vc,vk,rfl,(SM.mono (by simp)).trans kE (by intro b hb;simp at hb;right;omega),⟨by simp;omega,by simp;omega,by simp;omega⟩,⟨by omega,by omega,by omega⟩,(ak _ _ _ _ (by have:=qH.next;omega)).trans ((ak _ _ _ _ (by have:=qH.next;omega)).trans Ve),(ak _ _ _ _ (by omega)).trans (ao _ _ _),ao _ _ _,(oo1.mono (kE.mono S8)).ef (by intro b hb;simp[hb]),(nn2.mono (kE.mono S8)).ef (by intro b hb;simp[hb]),⟨?_, ?_⟩,X0,iL,by omega⟩
       ·have:=((d1'.ef (Y:=π.W++[cD.next,cD.next+1]) (by intro b hb;simp at hb;rcases hb with h|h|h;exact .inl h;right;have:=qH.next;omega;right;have:=qH.next;omega)).mono (ze.mono (by simp))).mono (kE.mono S8);exact this.ef (by intro b hb;simp[hb])
       ·have:=((Yz.ef (Y:=π.W++[cD.next,cD.next+1]) (by intro b hb;simp at hb;rcases hb with h|h|h;exact .inl h;right;have:=qH.next;omega;right;have:=qH.next;omega)).mono (ze.mono (by simp))).mono (kE.mono S8);exact this.ef (by intro b hb;simp[hb])
     ·rintro vs fm ⟨Vm,Vl,cf,kf,cs,ks,⟨rfl,K21,⟨l53,l68,l69⟩,⟨w53,w68,w69⟩,g53,g68,g69,N1,N2,⟨p1,p2⟩,B,-,aka⟩⟩;have apX:=B;obtain⟨aaw,Fs,xh,cL,hcL,hcK⟩:=uw B;have ayL:=K21.next;simp only[aK,aL]
      have Dr:∀K:CV->Prop,K (.agg [.bool false,pM,mH])->JM 3 2 (.ptr s9.next 0) fm K:=fun K hK=>by
       unfold JM;rw[ah,af,gq (n:=3) g53 (by simp),af];exact hK
      refine Dr _ ?_;refine qb p1.bu.2.1 p2.bu.2.1 ?_;have k22:Kp [] fm (St.new fm (.cells [.bool false,pM,mH] 105 false)):=(Kp.refl [] fm).new _;have Ti:(St.new fm (.cells [.bool false,pM,mH] 105 false)).mem.get fm.next=some (.cells [.bool false,pM,mH] 105 false):=aq _ _;have n22:(St.new fm (.cells [.bool false,pM,mH] 105 false)).next=fm.next+1:=rfl;generalize St.new fm (.cells [.bool false,pM,mH] 105 false)=Ag at*;rw[bG,ah,af,az,Ti,ar];simp only[aAT,aAS,aAQ,au];refine(sO ((p1.ef (Y:=[]) (by simp)).mono (k22.mono (by simp))) (dK _) (by rw[br];omega)).mono ?_;rintro xc pU ⟨F1,wu,o1,Iv,_⟩;have n23:=wu.next;have Ir:=(wu.keep fm.next (by omega) (by simp)).trans Ti;rw[ah,af,az,Ir,ar];simp only[aAT,aAS,aAQ,au];have Ul:Kp [] fm pU:=k22.trans wu (by simp);refine(zL ((p2.ef (Y:=[]) (by simp)).mono (Ul.mono (by simp))) (jc _) (by rw[py];omega)).mono ?_;rintro xk ix ⟨F2,kc2,o2,Yr,_⟩;have n24:=kc2.next;have Lp:=(kc2.keep fm.next (by omega) (by simp)).trans Ir;have abi:Kp [] fm ix:=Ul.trans kc2 (by simp);obtain⟨RY,NX⟩:=o1.cq;obtain⟨od1,od2⟩:=o2.cq;rw[ah,af,aH,Lp,aS,NX];refine⟨⟨rfl,by simp[RY],by simp⟩, ?_⟩;rw[ah,af,aH,ao,aS,od2];refine⟨⟨rfl,by simp[od1],by simp[bt]⟩, ?_⟩;rw[az,Ti,ar];refine⟨⟨trivial,⟨rfl,trivial⟩,trivial⟩,trivial, ?_⟩;have Uk:Kp [] fm (St.set (St.set ix fm.next (.cells (bt [.bool false,pM,mH] (0+1) [xc]) 105 false)) fm.next (.cells (bt (bt [.bool false,pM,mH] (0+1) [xc]) (0+2) [xk]) 105 false)):=(abi.set _ (.inr (aAU _)) (by omega)).set _ (.inr (aAU _)) (by simp;omega);have g25:(St.set (St.set ix fm.next (.cells (bt [.bool false,pM,mH] (0+1) [xc]) 105 false)) fm.next (.cells (bt (bt [.bool false,pM,mH] (0+1) [xc]) (0+2) [xk]) 105 false)).mem.get fm.next=some (.cells [.bool false,xc,xk] 105 false):=ao _ _ _;have n25:(St.set (St.set ix fm.next (.cells (bt [.bool false,pM,mH] (0+1) [xc]) 105 false)) fm.next (.cells (bt (bt [.bool false,pM,mH] (0+1) [xc]) (0+2) [xk]) 105 false)).next=ix.next:=rfl;have oT:∀b∈F1,fm.next<b/\b<pU.next:=fun b hb=>by have:=Iv b hb;omega
      have qF:∀b∈F2,pU.next<=b/\b<ix.next:=Yr;have aaN:Own (St.set (St.set ix fm.next (.cells (bt [.bool false,pM,mH] (0+1) [xc]) 105 false)) fm.next (.cells (bt (bt [.bool false,pM,mH] (0+1) [xc]) (0+2) [xk]) 105 false)) xc 4 109 (bj sm.n.cells) F1:=(o1.keep kc2 fun b hb=>⟨(oT b hb).2,by simp⟩).mono fun b hb=>by have:=oT b hb;rw[ak _ _ _ _ (by omega),ak _ _ _ _ (by omega)]
      have aje:Own (St.set (St.set ix fm.next (.cells (bt [.bool false,pM,mH] (0+1) [xc]) 105 false)) fm.next (.cells (bt (bt [.bool false,pM,mH] (0+1) [xc]) (0+2) [xk]) 105 false)) xk 1 3 (bU sm.n.kids) F2:=o2.mono fun b hb=>by have:=qF b hb;rw[ak _ _ _ _ (by omega),ak _ _ _ _ (by omega)]
      generalize St.set (St.set ix fm.next (.cells (bt [.bool false,pM,mH] (0+1) [xc]) 105 false)) fm.next (.cells (bt (bt [.bool false,pM,mH] (0+1) [xc]) (0+2) [xk]) 105 false)=lM at*;have Zb:Kp [] lM (St.new lM (.cells [.bool false, .ae, .ae] 105 false)):=(Kp.refl [] lM).new _;have aet:(St.new lM (.cells [.bool false, .ae, .ae] 105 false)).mem.get lM.next=some (.cells [.bool false, .ae, .ae] 105 false):=aq _ _;have n26:(St.new lM (.cells [.bool false, .ae, .ae] 105 false)).next=lM.next+1:=rfl;rw[bG];generalize St.new lM (.cells [.bool false, .ae, .ae] 105 false)=xT at*;have Bz:Kp [] fm xT:=Uk.trans Zb (by simp);have Yn:=(Zb.keep fm.next (by omega) (by simp)).trans g25;have aeq:=(Bz.keep Vm (by omega) (by simp)).trans g68;have aep:=(Bz.keep Vl (by omega) (by simp)).trans g69;have aau:Sl xT [] xc 4 (sm.n.cells.map aQ).flatten:=(aaN.keep Zb fun b hb=>⟨by have:=oT b hb;omega,by simp⟩).sl fun b hb=>⟨by simp,by have:=oT b hb;omega⟩;have Xu:left<(sm.n.cells.map aQ).length:=by simpa using Fs
      obtain⟨cb,cp,cl,ct,cg,q1',q2',q3',q4',q5'⟩:=aau.cellAt (by omega) (eV _) (i:=left) Xu
      have amv:sm.n.cells[left]=cL:=by
       obtain⟨_,h⟩:=aBg.1 hcL;exact h
      have Fx:cl[cp]?=some (.str sep):=by
       have:=q5' 0 (.str sep) (by simp[amv,aQ,hcK])
       rwa [aBJ]at this
      refine fx aeq ?_;simp only[af,az,Yn,ar,aAT,aAS,aAQ,au,q1',ah,q2',aBJ,Fx];refine fx aep ?_;have JH:first.cells.length<=700:=by have:=dZ first.leaf first.cells;have:=aka;rw[bS]at this;omega
      have GS:second.cells.length<=700:=by
       have:=dZ second.leaf second.cells;have h3:=bS second;omega
      have amE:first.kids.length<=1001:=by rw[B.V7.iQ];split<;>omega
      have amD:second.kids.length<=1001:=by rw[B.V6.iQ];split<;>omega
      have aog:cT xT:=Bz.fresh (K21.fresh ht.fr);obtain⟨J1,J2,J3⟩:=B.c1.join B.c2 B.V7 B.V6 aaw;refine(TJ aog ((N1.ef (by simp)).mono Bz) ((N2.ef (by simp)).mono Bz) (by omega) (by omega) amE amD).mono ?_;rintro xw Af ⟨Wq,hxw⟩;have n28:=Wq.next;have anb:Kp [] st xT:=K21.trans Bz (by simp);have are:=anb.next;obtain⟨cw,kw,rfl,w1,w2⟩:=hxw (π.W++[]) (by intro b hb;simp at hb;have:=mu b hb;omega);have Vg:=(Wq.keep lM.next (by omega) (by simp)).trans aet;have alQ:=(Wq.keep fm.next (by omega) (by simp)).trans Yn;rw[jq Vg,aT,aH,Vg,aS,aU,HZ _ _ _ _ rfl];refine⟨⟨rfl,by simp[w1.bu.2.1,w2.bu.2.1],by simp⟩, ?_⟩;rw[jq aet,aT];refine⟨⟨trivial,trivial,trivial,trivial,⟨rfl,trivial⟩,trivial⟩,trivial, ?_⟩;have Oo:Kp [] lM (St.set Af lM.next (.cells [.bool (dy first sep second).leaf,cw,kw] 105 false)):=(Zb.trans Wq (by simp)).set _ (.inr (aAU _)) (by omega);have g30:(St.set Af lM.next (.cells [.bool (dy first sep second).leaf,cw,kw] 105 false)).mem.get lM.next=some (.cells [.bool (dy first sep second).leaf,cw,kw] 105 false):=ao _ _ _;have anq:(St.set Af lM.next (.cells [.bool (dy first sep second).leaf,cw,kw] 105 false)).mem.get fm.next=some (.cells [.bool false,xc,xk] 105 false):=(ak _ _ _ _ (by omega)).trans alQ;have n30:(St.set Af lM.next (.cells [.bool (dy first sep second).leaf,cw,kw] 105 false)).next=Af.next:=rfl
      have aaP:IsNode (St.set Af lM.next (.cells [.bool (dy first sep second).leaf,cw,kw] 105 false)) (π.W++[lM.next]) (.agg [.bool (dy first sep second).leaf,cw,kw]) (dy first sep second):=by
       obtain⟨cw2,kw2,e,w3,w4⟩:=hxw (π.W++[lM.next]) (by intro b hb;simp at hb;rcases hb with h|h;have:=mu b h;omega;omega);simp only[CV.agg.injEq,aCC,and_true,aCV]at e;obtain⟨rfl,rfl⟩:=e;have kk:Kp [lM.next] Af (St.set Af lM.next (.cells [.bool (dy first sep second).leaf,cw,kw] 105 false)):=(Kp.refl _ Af).set _ (.inl (by simp)) (by omega);exact⟨cw,kw,rfl,w3.mono (kk.mono (by intro b hb;left;simp at hb⊢;exact .inr hb)),w4.mono (kk.mono (by intro b hb;left;simp at hb⊢;exact .inr hb))⟩
      generalize St.set Af lM.next (.cells [.bool (dy first sep second).leaf,cw,kw] 105 false)=TX at*;have abh:Kp [] fm TX:=Uk.trans Oo (by simp);have adP:Kp [] st TX:=K21.trans abh (by simp);have ajh:Own TX xc 4 109 (bj sm.n.cells) F1:=aaN.keep Oo fun b hb=>⟨by have:=oT b hb;omega,by simp⟩;have ajd:Own TX xk 1 3 (bU sm.n.kids) F2:=aje.keep Oo fun b hb=>⟨by have:=qF b hb;omega,by simp⟩;refine fx g30 ?_
      have hjc:(dy first sep second).cells.length<=1000:=by
       have:=dZ (dy first sep second).leaf (dy first sep second).cells;have h3:=bS (dy first sep second);omega
      have aof:cT TX:=adP.fresh ht.fr;refine(xR aof (aaP.ef (by simp)) J2 hjc).mono ?_;rintro _ xS ⟨rfl,Wp⟩;have n31:=Wp.next;have FL:Kp [] st xS:=adP.trans Wp (by simp);have g31:=(Wp.keep lM.next (by omega) (by simp)).trans g30;have Yd:=(Wp.keep fm.next (by omega) (by simp)).trans anq;have aaM:Own xS xc 4 109 (bj sm.n.cells) F1:=ajh.keep Wp fun b hb=>⟨by have:=oT b hb;omega,by simp⟩;have V8:Own xS xk 1 3 (bU sm.n.kids) F2:=ajd.keep Wp fun b hb=>⟨by have:=qF b hb;omega,by simp⟩;have aaO:=aaP.mono (Wp.mono (by simp));have t31:=ht.still FL;have ato:=hst.mono (FL.mono (by simp));have aoq:aj .leq none true (I (dy first sep second).size) (.int .i64 512) xS= .ok (.bool (decide ((dy first sep second).size<=512))) xS:=by rw[av,nt];congr 2;simp only[aBu];omega
      rw[aoq,af,ag]
      have vC:∀(i:Nat) (p:Nat),sm.n.kids[i]?=some p->∀s,Kp π.W xS s->∃a,cU 1 xk (I i) s= .ok a s/\∀K:CV->Prop,K (I p)->us (aC a s) K:=by
       intro i p hi s hs;obtain⟨DQ,hie⟩:=aBg.1 hi
       have kN:Sl s π.W xk 1 ((bU sm.n.kids).map fun x=>[x]).flatten:=by
        have h2:Sl xS π.W xk 1 (bU sm.n.kids):=V8.sl fun b hb=>⟨rH b (by have:=qF b hb;omega),by have:=qF b hb;omega⟩;have e:((bU sm.n.kids).map fun x=>[x]).flatten=bU sm.n.kids:=by simp[<-List.flatMap_def]
        rw[e];exact h2.mono hs
       obtain⟨b,p',l,t,g,a1,a2,a3,a4,a5⟩:=kN.cellAt (by omega) (by simp) (i:=i) (by simpa using DQ);refine⟨_,a1 s,fun K hK=> ?_⟩;have:=a5 0 (I p) (by simp[bU,hie]);rw[aBJ]at this;rw[az,a2,ar,this];exact hK
      by_cases uu:(dy first sep second).size<=512
      ·rw[aBc uu,aBb rfl,bG];obtain⟨g_u,Yk,anH,anI⟩:=Gm B hg.ok iL uu;have fP:∀b,st.next<=b->b∉π.all/\b≠τ:=fun b hb=>⟨fun hh=>by have:=ht.pg.lt b hh;omega,fun e=>by have:=ht.lt;omega⟩;obtain⟨pa1,Pf,X3⟩:=vC left pf B.Oj xS (Kp.refl _ _);simp only[af,az,Yd,ar,aAT,aAS,aAQ,au,ah,Pf];refine X3 _ ?_;refine fx g31 ?_;refine(lr t31 B.u1 (aaO.ef (by simp)) J2 uu).mono ?_;rintro _ Kt ⟨rfl,Ui,t32⟩;have n32:=Ui.next;have adO:=FL.next;have aeh:=(Ui.keep fm.next (by omega) (rH _ (by omega))).trans Yd;obtain⟨pa2,DS,X2⟩:=vC (left+1) pn B.Sd Kt Ui;obtain⟨atf,axv,alO⟩:=t32.get;rw[e5,af,ag,aAZ (by decide),bG,bA,af];simp only[alO,ar,aAT,aAS,aAQ,au,aeh,ik left (by omega),af,ah,az,DS];refine⟨⟨trivial,trivial,trivial,trivial⟩,trivial, ?_⟩;refine X2 _ ?_;refine(CA t32.pg g_u).mono ?_;rintro _ Ks ⟨rfl,Wo,p33⟩;have n33:=Wo.next;have t33:=t32.of Wo p33;have On:Kp π.W xS Ks:=Ui.trans Wo fun q hq=> .inl hq;have aeg:=(Wo.keep fm.next (by omega) (rH _ (by omega))).trans aeh;have ajg:Own Ks xc 4 109 (bj sm.n.cells) F1:=aaM.keep On fun b hb=>⟨by have:=oT b hb;omega,rH b (by have:=oT b hb;omega)⟩;have ajc:Own Ks xk 1 3 (bU sm.n.kids) F2:=V8.keep On fun b hb=>⟨by have:=qF b hb;omega,rH b (by have:=qF b hb;omega)⟩;refine⟨⟨trivial,trivial,trivial,trivial⟩,trivial, ?_⟩;have aeD:∀s,aj .add none true (I left) (.int .i64 2) s= .ok (I ((left+1+1:Nat):Int)) s:=fun s=>by rw[av,cN,bD (by omega)];rfl
       rw[e5,af,ag,aAZ (by decide),bG];simp only[ar,aAS,aAQ,au,aeg,ik left (by omega),af];refine(F8 (n:=sm.n.cells.length) ajg (br _) (by omega) (fun b hb=>by have:=oT b hb;omega) (dK _) Fs).mono ?_;rintro xL VP ⟨o34,k34,n34⟩;have aef:=(k34.keep fm.next (by omega) (fun hh=>by have:=oT _ hh;omega)).trans aeg;have ajb:Own VP xk 1 3 (bU sm.n.kids) F2:=ajc.keep k34 fun b hb=>⟨by have:=qF b hb;omega,fun hh=>by have:=oT b hh;have:=qF b hb;omega⟩;simp only[ar,aAS,aAQ,au,aef,aeD,af];refine(LC (n:=sm.n.kids.length) (i:=left+1) ajb (by simp) (by omega) (fun b hb=>by have:=qF b hb;omega) (jc _) (by omega)).mono ?_;rintro sY L0 ⟨o35,L6,n35⟩;have anp:=(L6.keep fm.next (by omega) (fun hh=>by have:=qF _ hh;omega)).trans aef
       have Ni:Sl L0 (π.W++(fm.next::F2)) xL 4 ((bj sm.n.cells).take (left*4)++(bj sm.n.cells).drop ((left+1)*4)):=(o34 (π.W++(fm.next::F2)) (fun b hb hh=>by
        have:=oT b hb;simp at hh;rcases hh with hh|hh|hh
        ·exact rH b (by omega) hh
        ·omega
        ·have:=qF b hh;omega)).mono (L6.mono (by intro q hq;left;simp[hq]))
       have Nh:Sl L0 (π.W++[fm.next]) sY 1 ((bU sm.n.kids).take ((left+1)*1)++(bU sm.n.kids).drop ((left+1+1)*1)):=o35 _ fun b hb hh=>by
        have:=qF b hb;simp at hh;rcases hh with hh|hh
        ·exact rH b (by omega) hh
        ·omega
       have ec:(bj sm.n.cells).take (left*4)++(bj sm.n.cells).drop ((left+1)*4)=bj (tb sm.n left).cells:=by
        rw[jg _ _ (by omega),jh _ _ (by omega),<-gj];rfl
       have ek:(bU sm.n.kids).take ((left+1)*1)++(bU sm.n.kids).drop ((left+1+1)*1)=bU (tb sm.n left).kids:=by
        rw[aCF,aCF,uh,ui,<-mO];rfl
       rw[ec]at Ni;rw[ek]at Nh;obtain⟨z1,z2,z3⟩:=Ni.bu;obtain⟨z4,z5,z6⟩:=Nh.bu;have pC:bt [.bool false,xc,xk] 1 [xL]=[.bool false,xL,xk]:=rfl;have jR:bt [.bool false,xL,xk] 2 [sY]=[.bool false,xL,sY]:=rfl;rw[aH,anp,aS,z3,pC];refine⟨⟨rfl,by simp[z2],by simp⟩, ?_⟩;rw[aH,ao,aS,z6,jR];refine⟨⟨rfl,by simp[z5],by simp⟩,⟨trivial,⟨trivial,trivial⟩,trivial⟩,trivial, ?_⟩;have Ol:Kp [fm.next] L0 (St.set (St.set L0 fm.next (.cells [.bool false,xL,xk] 105 false)) fm.next (.cells [.bool false,xL,sY] 105 false)):=((Kp.refl _ L0).set _ (.inl (by simp)) (by omega)).set _ (.inl (by simp)) (by simp;omega);have ano:(St.set (St.set L0 fm.next (.cells [.bool false,xL,xk] 105 false)) fm.next (.cells [.bool false,xL,sY] 105 false)).mem.get fm.next=some (.cells [.bool (tb sm.n left).leaf,xL,sY] 105 false):=ao _ _ _;have n37:(St.set (St.set L0 fm.next (.cells [.bool false,xL,xk] 105 false)) fm.next (.cells [.bool false,xL,sY] 105 false)).next=L0.next:=rfl;generalize St.set (St.set L0 fm.next (.cells [.bool false,xL,xk] 105 false)) fm.next (.cells [.bool false,xL,sY] 105 false)=QA at*
       have Wb:IsNode QA π.W (.agg [.bool (tb sm.n left).leaf,xL,sY]) (tb sm.n left):=
        ⟨xL,sY,rfl,(Ni.mono (Ol.mono (by intro q hq;left;simp at hq;simp[hq]))).ef (by intro q hq;left;simp[hq]),(Nh.mono (Ol.mono (by intro q hq;left;simp at hq;simp[hq]))).ef (by intro q hq;left;simp[hq])⟩
       have Uh:Kp (F1++(F2++[fm.next])) Ks QA:=((k34.mono (by intro q hq;left;simp[hq])).trans L6 (by intro q hq;left;simp[hq])).trans Ol (by intro q hq;left;simp at hq;simp[hq])
       have nY:∀q∈F1++(F2++[fm.next]),st.next<=q:=by
        intro q hq;simp at hq;rcases hq with hq|hq|hq
        ·have:=oT q hq;omega
        ·have:=qF q hq;omega
        ·omega
       have t37:=t33.vo Uh fun b hb=>fP b (nY b hb);have ana:Kp π.W st Ks:=(FL.mono (by simp)).trans On fun q hq=> .inl hq;have adN:Kp π.W st QA:=ana.trans Uh fun q hq=> .inr (nY q hq);have aiy:=hst.mono adN;have Yu:∀s,aj .sub none true (I (((sm::fM).length+1:Nat):Int)) (.int .i64 1) s= .ok (I ((fM.length+1:Nat):Int)) s:=e3;obtain⟨GX,WD,Wz⟩:=aiy.hi (m:=fM.length+1) (by simp) QA
       have PJ:((sm::fM).reverse++[f]).take (fM.length+1)=fM.reverse++[sm]:=by
        rw[aCm (by simp)];simp
       rw[PJ]at Wz;rw[bG,hlen,af,Yu,af,WD,af];refine fx ano ?_;simp only[aBt]at jy hm vu;refine(ih fM.length (by omega) fM rfl t37 Yk (by omega) (by omega) Wz Wb (by omega)).mono ?_;rintro _ s38 ⟨rfl,k38,G',t38,ais,sG⟩;exact⟨⟨trivial,trivial⟩,trivial,rfl,adN.trans k38 fun q hq=> .inl hq,G',t38,ais,sG⟩
      ·rw[aAW uu,aAZ (by decide)];have fP:∀b,st.next<=b->b∉π.all/\b≠τ:=fun b hb=>⟨fun hh=>by have:=ht.pg.lt b hh;omega,fun e=>by have:=ht.lt;omega⟩;obtain⟨i,FC,H⟩:=PZ J2 (by omega) (by omega)
       have O2:cz (dy first sep second)<(dy first sep second).cells.length:=by
        have:=H.lt;unfold cz;cases fp:(dy first sep second).leaf with
        |false=>simp;omega
        |true=>
         rw[aBb rfl];have hA:=H.Y6;rcases H.eqs with⟨_,e,_⟩|⟨h,_⟩
         ·rw[e]at hA
          have:0<i:=by
           rcases Nat.eq_zero_or_pos i with h0|h0
           ·exact absurd (by show(dy first sep second).cells.take i=[];rw[h0,aCI]) hA
           ·exact h0
          omega
         ·rw[fp]at h;cases h
       obtain⟨ND,VU,r_u,VV⟩:=DH B hg.ok iL H;have AM:(wD (dy first sep second)).2.1.length<=48:=by rw[H.key];exact(J2.cell _ (aBq ..)).key
       refine fx g31 ?_;have aoe:cT xS:=FL.fresh ht.fr;have adO:=FL.next;refine(Qs aoe (aaO.ef (by simp)) J2 (by omega) O2).mono ?_;rintro _ ta ⟨xa,xb,rfl,k39,hxa,hxb⟩;generalize amr:wD (dy first sep second)=cu at*;obtain⟨a,sp,b⟩:=cu;simp only at H hxa hxb ND VU r_u VV AM;have n39:=k39.next;have U6:∀q∈π.W,q<xS.next:=fun q hq=>by have:=mu q hq;omega
       obtain⟨ca,ka,rfl,Z2,Z1⟩:=hxa π.W U6;obtain⟨cb,kb,rfl,Z0,ZZ⟩:=hxb π.W U6;have za2:=Z2.bu.2.1;have zb2:=Z1.bu.2.1;have zc2:=Z0.bu.2.1;have zd2:=ZZ.bu.2.1;have yy:(St.new ta (.cells [.bool false, .ae, .ae] 105 false)).next=ta.next+1:=rfl;rw[aD,af,aJ,aD,af,aJ,aJ,aD,af,cM,aT,cM,aT,yy];have kA:Kp [] ta (St.new (St.new ta (.cells [.bool false, .ae, .ae] 105 false)) (.cells [.bool false, .ae, .ae] 105 false)):=((Kp.refl [] ta).new _).new _;have ZN:(St.new (St.new ta (.cells [.bool false, .ae, .ae] 105 false)) (.cells [.bool false, .ae, .ae] 105 false)).mem.get ta.next=some (.cells [.bool false, .ae, .ae] 105 false):=(aW _ _ _ (by simp)).trans (aq _ _);have ZM:(St.new (St.new ta (.cells [.bool false, .ae, .ae] 105 false)) (.cells [.bool false, .ae, .ae] 105 false)).mem.get (ta.next+1)=some (.cells [.bool false, .ae, .ae] 105 false):=aq (St.new ta (.cells [.bool false, .ae, .ae] 105 false)) _;have nA:(St.new (St.new ta (.cells [.bool false, .ae, .ae] 105 false)) (.cells [.bool false, .ae, .ae] 105 false)).next=ta.next+2:=rfl;generalize St.new (St.new ta (.cells [.bool false, .ae, .ae] 105 false)) (.cells [.bool false, .ae, .ae] 105 false)=VO at*;rw[aH,ZN,aS,aU,HZ _ _ _ _ rfl];refine⟨⟨rfl,by simp[za2,zb2],by simp⟩, ?_⟩;rw[aH,ak _ _ _ _ (by omega),ZM,aS,aU,HZ _ _ _ _ rfl];refine⟨⟨rfl,by simp[zc2,zd2],by simp⟩, ?_⟩;have kB:Kp [] ta (St.set (St.set VO ta.next (.cells [.bool a.leaf,ca,ka] 105 false)) (ta.next+1) (.cells [.bool b.leaf,cb,kb] 105 false)):=(kA.set _ (.inr (aAU _)) (by omega)).set _ (.inr (by omega)) (by simp;omega);have gB1:(St.set (St.set VO ta.next (.cells [.bool a.leaf,ca,ka] 105 false)) (ta.next+1) (.cells [.bool b.leaf,cb,kb] 105 false)).mem.get ta.next=some (.cells [.bool a.leaf,ca,ka] 105 false):=(ak _ _ _ _ (by omega)).trans (ao _ _ _);have gB2:(St.set (St.set VO ta.next (.cells [.bool a.leaf,ca,ka] 105 false)) (ta.next+1) (.cells [.bool b.leaf,cb,kb] 105 false)).mem.get (ta.next+1)=some (.cells [.bool b.leaf,cb,kb] 105 false):=ao _ _ _
       have nB:(St.set (St.set VO ta.next (.cells [.bool a.leaf,ca,ka] 105 false)) (ta.next+1) (.cells [.bool b.leaf,cb,kb] 105 false)).next=ta.next+2:=nA;generalize St.set (St.set VO ta.next (.cells [.bool a.leaf,ca,ka] 105 false)) (ta.next+1) (.cells [.bool b.leaf,cb,kb] 105 false)=LZ at*;have Jl:Kp [] xS LZ:=k39.trans kB (by simp);have adM:Kp [] st LZ:=FL.trans Jl (by simp);have t43:=ht.still adM;have aee:=(Jl.keep fm.next (by omega) (by simp)).trans Yd;have ajs:IsNode LZ π.W (.agg [.bool a.leaf,ca,ka]) a:=⟨ca,ka,rfl,Z2.mono (kB.mono (by simp)),Z1.mono (kB.mono (by simp))⟩;have ajq:IsNode LZ π.W (.agg [.bool b.leaf,cb,kb]) b:=⟨cb,kb,rfl,Z0.mono (kB.mono (by simp)),ZZ.mono (kB.mono (by simp))⟩;obtain⟨pa1,Pf,X3⟩:=vC left pf B.Oj LZ (Jl.mono (by simp));simp only[bG,af,az,aee,ar,aAT,aAS,aAQ,au,ah,Pf];refine X3 _ ?_;refine fx gB1 ?_;refine(lr t43 B.u1 (ajs.ef (by simp)) H.V5 H.szA).mono ?_;rintro _ LY ⟨rfl,k44,t44⟩;have n44:=k44.next;have ard:=adM.next;have aed:=(k44.keep fm.next (by omega) (rH _ (by omega))).trans aee;have anJ:=(k44.keep (ta.next+1) (by omega) (rH _ (by omega))).trans gB2;refine⟨⟨trivial,trivial,trivial,trivial⟩,trivial, ?_⟩;have Uj:Kp π.W xS LY:=(Jl.mono (by simp)).trans k44 fun q hq=> .inl hq;obtain⟨pa2,DS,X2⟩:=vC (left+1) pn B.Sd LY Uj;simp only[e5,ag,aAR,aBf,af,az,aed,ar,aAT,aAS,aAQ,au,ah,ik left (by omega),DS];refine X2 _ ?_;refine fx anJ ?_;refine(lr t44 r_u ((ajq.mono k44).ef (by simp)) H.okB H.szB).mono ?_;rintro _ Ae ⟨rfl,Sg,t45⟩;have n45:=Sg.next;have aec:=(Sg.keep fm.next (by omega) (rH _ (by omega))).trans aed;have Om:Kp π.W xS Ae:=Uj.trans Sg fun q hq=> .inl hq;have ajf:Own Ae xc 4 109 (bj sm.n.cells) F1:=aaM.keep Om fun b hb=>⟨by have:=oT b hb;omega,rH b (by have:=oT b hb;omega)⟩;have aja:Own Ae xk 1 3 (bU sm.n.kids) F2:=V8.keep Om fun b hb=>⟨by have:=qF b hb;omega,rH b (by have:=qF b hb;omega)⟩;refine⟨⟨trivial,trivial,trivial,trivial⟩,trivial, ?_⟩
       have mP:bJ [.str [], .str [], .int .i64 0, .int .i64 0] [(0,1, .str sp)] Ae= .ok (.agg (aQ (fL sp))) Ae:=rfl;simp only[e5,ag,aAR,aBf,af,fl,az,aec,ar,aAT,aAS,aAQ,au,ah,mP];obtain⟨bc,rfl,xG,anD⟩:=kF ajf (by omega) (br _) (by omega);have hbc:=oT bc (by simp[xG])
       have UM:cU 4 (.slice bc 0 sm.n.cells.length sm.n.cells.length 4) (I left) Ae= .ok (.ptr bc (left*4)) Ae:=by
        have:=gu (size:=4) (off:=0) (cap:=sm.n.cells.length) (grow:=4) Fs (.inr (aAU _)) Ae (b:=bc)
        rwa [aAT]at this
       have OK:bt (bj sm.n.cells) (left*4) (aQ (fL sp))=bj (iX sm.n left sp).cells:=by
        unfold bj;rw[sJ (eV _) _ (by simpa using Fs) _ rfl];unfold iX;rw[aCJ,aBb (by simpa using Fs)];simp[aCE,aCt]
       unfold Db;rw[UM,af,aH,anD,aS,aU,OK];refine⟨⟨rfl,rfl,by rw[br];omega⟩, ?_⟩;have k46:Kp [bc] Ae (St.set Ae bc (.cells (bj (iX sm.n left sp).cells) 109 true)):=(Kp.refl _ Ae).set _ (.inl (by simp)) (by omega);have anC:(St.set Ae bc (.cells (bj (iX sm.n left sp).cells) 109 true)).mem.get bc=some (.cells (bj (iX sm.n left sp).cells) 109 true):=ao _ _ _;have n46:(St.set Ae bc (.cells (bj (iX sm.n left sp).cells) 109 true)).next=Ae.next:=rfl;generalize St.set Ae bc (.cells (bj (iX sm.n left sp).cells) 109 true)=Nr at*;have ann:Nr.mem.get fm.next=some (.cells [.bool (iX sm.n left sp).leaf, .slice bc 0 sm.n.cells.length sm.n.cells.length 4,xk] 105 false):=(k46.keep fm.next (by omega) (by simp;omega)).trans aec;have PQ:(iX sm.n left sp).cells.length=sm.n.cells.length:=by unfold iX;simp;omega
       have aiZ:Own Nr xk 1 3 (bU sm.n.kids) F2:=aja.keep k46 fun b hb=>⟨by have:=qF b hb;omega,by have:=qF b hb;simp;omega⟩
       have Wa:IsNode Nr π.W (.agg [.bool (iX sm.n left sp).leaf, .slice bc 0 sm.n.cells.length sm.n.cells.length 4,xk]) (iX sm.n left sp):=
        ⟨_,_,rfl, .inr ⟨bc,0,_,_,4,rfl,by rw[br,PQ],⟨aAU _, .inr rfl⟩, .inr ⟨rH _ (by omega),by omega,_,_,_,anC,by rw[br,PQ];omega,by rw[aBx,aBa (by rw[br,PQ];omega)]⟩⟩,aiZ.sl fun b hb=>⟨rH b (by have:=qF b hb;omega),by have:=qF b hb;omega⟩⟩
       have t46:=t45.vo k46 fun b hb=>fP b (by simp at hb;omega);have amZ:Kp π.W st Ae:=(FL.mono (by simp)).trans Om fun q hq=> .inl hq;have adL:Kp π.W st Nr:=amZ.trans k46 fun q hq=> .inr (by simp at hq;omega);have aix:=hst.mono adL;have Yu:∀s,aj .sub none true (I (((sm::fM).length+1:Nat):Int)) (.int .i64 1) s= .ok (I ((fM.length+1:Nat):Int)) s:=e3;obtain⟨GX,WD,Wz⟩:=aix.hi (m:=fM.length+1) (by simp) Nr
       have PJ:((sm::fM).reverse++[f]).take (fM.length+1)=fM.reverse++[sm]:=by
        rw[aCm (by simp)];simp
       rw[PJ]at Wz;simp only[hlen,af,Yu,WD];refine fx ann ?_;simp only[aBt]at jy hm vu;refine(ih fM.length (by omega) fM rfl t46 ND (by omega) (by omega) Wz Wa (by omega)).mono ?_;rintro _ s47 ⟨rfl,k47,G',t47,air,sG⟩;exact⟨⟨trivial,trivial⟩,trivial,rfl,adL.trans k47 fun q hq=> .inl hq,G',t47,air,sG⟩
theorem To {rest:List cE}{f:cE}{n:aZ}{h:Nat}{x v:CV}{LL:List bB}(ht:Tg τ π st G)(hg:xJ G h f.page rest n LL)(hsz:n.size<=640)(jy:rest.length+2<=G.ck)
 (hst:dN st π.W x (rest.reverse++[f])) (hv:IsNode st π.W v n) (vu:rest.length<=16):R 52 [.ptr τ 0,x,v] st (BX τ π G LL st):=PW rest.length rest rfl ht hg hsz jy hst hv vu
end
