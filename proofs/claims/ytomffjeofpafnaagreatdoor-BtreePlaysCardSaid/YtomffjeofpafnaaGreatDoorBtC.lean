import Derived.Test.YtomffjeofpafnaaGreatDoorBtB
namespace Lim
open Go
noncomputable section
set_option maxRecDepth 100000
section
variable {τ:Nat} {π:PI} {st st':St} {G:GM}
theorem xV {n:bg}(h:n.ok)(hs:128<=n.size):n.leaf=true\/n.cells≠[]:=by
 by_cases hc:n.cells=[]
 ·cases fV:n.leaf with
  |true=>exact .inl rfl
  |false=>
   exfalso;have hk:=h.jf;rw[fV,aAH (by decide),hc]at hk;have h2:=oZ h.A8;rw[bX,fV,hc]at hs;have h3:(uv ([]:List dh).length).length=1:=eI (by simp);simp only[aAz,aAO]at hs;simp only[aCb]at hk;rw[hk]at h2;have h4:(cK false []).length=0:=rfl;omega
 ·exact .inr hc
structure SF (τ:Nat)(π:PI)(st:St)(G:GM)(h:Nat)(sm:cO)(rest:List cO)(LL:List bA)(x:CV)(b53:Nat)(vs:List CV)(s:St)(left:Nat)(first second:bg)(sep:cc)(pf pn:Nat)(aE:List Nat)(d:sQ)(Ur Uq:Nat)(cf kf cs ks vcp vkp:CV):Prop where
 vs:vs=[.ptr τ 0,x, .ptr b53 0, .ptr Ur 0, .ptr Uq 0,I left]
 kp:Kp [] st s
 lt:b53<s.next/\Ur<s.next/\Uq<s.next
 ge:st.next<=b53/\st.next<=Ur/\st.next<=Uq
 g53:s.mem.get b53=some (.cells [I sm.page,I sm.at_, .bool false,vcp,vkp] 107 false)
 g68:s.mem.get Ur=some (.cells [.bool first.leaf,cf,kf] 105 false)
 g69:s.mem.get Uq=some (.cells [.bool second.leaf,cs,ks] 105 false)
 n1:IsNode s π.W (.agg [.bool first.leaf,cf,kf]) first
 n2:IsNode s π.W (.agg [.bool second.leaf,cs,ks]) second
 np:Sl s π.W vcp 4 (bC sm.n.cells)/\Sl s π.W vkp 1 (ck sm.n.kids)
 bes:uo G h sm rest left first second sep pf pn LL aE d
 nd:aE.Nodup
 size:first.size+second.size<=700
theorem OP:∀(m:Nat) (rest:List cO),rest.length=m->∀{st:St} {G:GM} {f:cO} {n:bg} {h:Nat} {x v:CV} {LL:List bA},Tg τ π st G->Ax G h f.page rest n LL->n.size<=640->rest.length+2<=G.cJ->
 eP st π.W x (rest.reverse++[f])->IsNode st π.W v n->rest.length<=16->R 52 [.ptr τ 0,x,v] st (By τ π G LL st):=by
 intro m
 induction m using Nat.strongRecOn with
 |_ m ih=>
  intro rest hm st G f n h x v LL ht hg hsz iE hst hv yR;have pZ:=ht.PY;have ur:∀q,st.next<=q->q∉π.W:=fun q hq hh=>by have:=pZ q hh;omega
  have Ds:=hv;obtain⟨vc,vk,rfl,RX,LH⟩:=hv
  have qx:n.cells.length<=640:=by
   have:=eR n.leaf n.cells;rw[bX]at hsz;omega
  refine bN ?_;rw[w52];rw[cn,aX];refine⟨rfl, ?_⟩;have k1:Kp [] st (St.new st (.cells [.bool n.leaf,vc,vk] 105 false)):=(Kp.refl [] st).new _;have g1:(St.new st (.cells [.bool n.leaf,vc,vk] 105 false)).mem.get st.next=some (.cells [.bool n.leaf,vc,vk] 105 false):=au _ _;have n1:(St.new st (.cells [.bool n.leaf,vc,vk] 105 false)).next=st.next+1:=rfl;generalize St.new st (.cells [.bool n.leaf,vc,vk] 105 false)=s1 at*;have gw:=hst.mono (k1.mono (by simp));have wb:(rest.reverse++[f]).length=rest.length+1:=by simp
  have e3:∀s,aj .sub none true (I ((rest.length+1:Nat):Int)) (.int .i64 1) s= .ok (I rest.length) s:=fun s=>by
   have:=xS (rest.length+1) (by omega) (by omega) s none
   rwa [aBX]at this
  obtain⟨LY,LX,c1,c2,jg⟩:=gw.row (i:=rest.length) (by simp);have hf:(rest.reverse++[f])[rest.length]'(by simp)=f:=by simp
  rw[hf]at c1 c2 jg;have hlen:=fun s=>hst.len s;rw[wb]at hlen;simp only[hlen,af,e3];refine jg _ ?_;refine nT c1.bG.2.1 c2.bG.2.1 ?_;have k3:Kp [] s1 (St.new s1 (.cells [I f.page,I f.at_, .bool f.n.leaf,LY,LX] 107 false)):=(Kp.refl [] s1).new _;have g3:(St.new s1 (.cells [I f.page,I f.at_, .bool f.n.leaf,LY,LX] 107 false)).mem.get s1.next=some (.cells [I f.page,I f.at_, .bool f.n.leaf,LY,LX] 107 false):=au _ _;have n3:(St.new s1 (.cells [I f.page,I f.at_, .bool f.n.leaf,LY,LX] 107 false)).next=s1.next+1:=rfl;generalize St.new s1 (.cells [I f.page,I f.at_, .bool f.n.leaf,LY,LX] 107 false)=s3 at*;have ku:Kp [] st s3:=k1.trans k3 (by simp);have qa:=(k3.keep st.next (by omega) (by simp)).trans g1;have st3:=gw.mono (k3.mono (by simp));have t3:=ht.still ku;have v3:IsNode s3 π.W (.agg [.bool n.leaf,vc,vk]) n:=Ds.mono (ku.mono (by simp));have e4:aj .eql (some .int) true (I ((rest.length+1:Nat):Int)) (.int .i64 1) s3= .ok (.bool (decide (rest.length=0))) s3:=by rw[aw,cz];congr 2;simp only[aBc];omega
  have e5:∀s,aj .neq (some .int) true (I 0) (.int .i64 0) s= .ok (.bool false) s:=fun s=>rfl;simp only[hlen,af,e4,ag];have WO:∀s,Kp [] st s->bh .slice vc s= .ok (I n.cells.length) s:=fun s hs=>(RX.mono (hs.mono (by simp))).len n.cells.length (bL _) (by omega) s
  have On:∀s,Kp [] st s->(n.leaf=true\/n.cells≠[])->R 104 [.ptr τ 0,x, .agg [.bool n.leaf,vc,vk]] s fun y s'=>By τ π G LL st y s':=by
   intro s hs jS;refine(ZI (ht.still hs) hg jS hsz iE (hst.mono (hs.mono (by simp))) (Ds.mono (hs.mono (by simp))) yR).mono ?_;rintro y s' ⟨rfl,k',G',t',to',qz⟩;exact⟨rfl,(hs.mono (by simp)).trans k' fun q hq=> .inl hq,G',t',to',qz⟩
  obtain⟨lo,hi,Ll,Lr,L,ps,q,xp,kI,iQ,Ua⟩:=hg.ctx;cases rest with
  |nil=>
   rw[aAI (show decide (([]:List cO).length=0)=true from rfl)];obtain⟨_,rfl,rfl,rfl,rfl,rfl⟩:=(show f.page=G.root/\lo=[]/\hi=none/\Ll=[]/\Lr=[]/\ps=[]from xp);have ez:∀s,aj .eql (some .int) true (I n.cells.length) (.int .i64 0) s= .ok (.bool (decide (n.cells.length=0))) s:=fun s=>by rw[aw,cz];congr 2;simp only[aBc];omega
   simp only[fl,ah,af,aA,qa,aq,aAF,aAy,av];simp only[aBf,aBz]at Ua iQ;rw[aAQ]at iQ;cases fV:n.leaf with
   |true=>
    rw[fV]at qa On;simp only[aH,aAY,jI,bo,ah,af,aA,qa,aq,aAF,aAA,aAy,av,WO s3 ku,ez,aG,ag,dm,aAU,aAz,aAO,cB]
    by_cases h0:n.cells.length=0
    ·rw[aAJ h0,aAI rfl];refine t3.get' ?_;refine(rY t3.pg 0 (.inl rfl)).mono ?_;rintro _ s4 ⟨rfl,k4,p4⟩;have t4:=t3.of k4 p4;have Uk:=(k4.keep s1.next (by omega) (ur _ (by omega))).trans g3;simp only[e5,af,ag,aAz,aAO,bt,aA,Uk,aq,aAy,av];obtain⟨ty,g,hg4⟩:=t4.get;simp only[br,ah,af,aA,hg4,Uk,aq,aAF,aAy,av];refine(Cc t4.pg (n:=f.page) hg.bP).mono ?_;rintro _ s5 ⟨rfl,k5,p5⟩
     have hL0:LL=[]:=by
      rw[<-Ua];obtain⟨_,c⟩:n.cells=[]/\True:=⟨aBa.1 h0,trivial⟩;have abO:=kI.leaf;cases h with
      |zero=>
       obtain⟨_,_,Xo,_⟩:=kI;rw[aBa.1 h0]at Xo;exact Xo.1
      |succ h=>rw[fV]at abO;cases abO
     exact⟨⟨trivial,trivial,trivial⟩,trivial,rfl,(((ku.mono (by simp)).trans k4 fun q hq=> .inl hq).trans k5 fun q hq=> .inl hq),_,t4.of k5 p5,⟨(sE (hg.ok.gJ 0) hg.bP).ok, .inl ⟨rfl,hL0⟩⟩,rfl⟩
    ·rw[aAB h0,aAH (by decide)];rw[aQ (n:=3) qa rfl,af];exact On s3 ku (.inl rfl)
   |false=>
    rw[fV]at qa On;simp only[aH,aAY,jI,bo,cB,ah,af,aA,qa,aq,aAF,aAA,aAy,av,WO s3 ku,ez,aG,ag,dm,aAT,aAz,aAO]
    by_cases h0:n.cells.length=0
    ·rw[aAJ h0,aAI rfl];have hce:n.cells=[]:=aBa.1 h0;cases h with
     |zero=>have:=kI.leaf;rw[fV]at this;cases this
     |succ h=>
      obtain⟨_,Ap⟩:=kI;have Gp:=Ap.len;have hse:n.eW=[]:=by unfold bg.eW;rw[hce];rfl
      rw[hse]at Ap Gp;obtain⟨kk,Gq⟩:∃kk,n.kids=[kk]:=List.length_eq_one_iff.1 (by simpa using Gp);rw[Gq,bW.one]at Ap;obtain⟨_,sW⟩:=Ap;have hku:G.bP kk:=by obtain⟨nn,qq,Bf,_⟩:=sW;exact Bf.bP
      have WW:=LH.mono (ku.mono (by simp));rw[Gq]at WW;obtain⟨ty,g,hg3⟩:=t3.get;have Y3:∀K:CV->Prop,K (I kk)->Lim.idx 1 vk (I ((0:Nat):Int)) s3 K:=fun K hK=>WW.idx (i:=0) (by simp) K hK
      have ale:∃p,cQ 1 vk (.int .i64 0) s3= .ok p s3/\∀K:CV->Prop,K (I kk)->us (aC p s3) K:=by
       obtain⟨b,p,l,t,g,q1,q2,q3,q4,q5⟩:=(show Sl s3 π.W vk 1 ([[I kk]]:List (List CV)).flatten from WW).cellAt (by omega) (by simp) (i:=0) (by simp);refine⟨_,q1 s3,fun K hK=> ?_⟩;have:=q5 0 (I kk) rfl;rw[aBl]at this;rw[aA,q2,aq,this];exact hK
      obtain⟨p,Tx,Dt⟩:=ale;simp only[bt,br,ah,af,aA,hg3,qa,aq,aAF,aAA,aAy,av,Tx];refine Dt _ ?_;refine(rY t3.pg kk (.inr hku)).mono ?_;rintro _ s6 ⟨rfl,k6,p6⟩;have t6:=t3.of k6 p6;have g36:=(k6.keep s1.next (by omega) (ur _ (by omega))).trans g3;obtain⟨ty6,gg6,hg6⟩:=t6.get;simp only[e5,af,ag,aAz,aAO,aA,hg6,g36,aq,aAy,av,aCC];refine(Cc t6.pg (n:=f.page) hg.bP).mono ?_;rintro _ s7 ⟨rfl,k7,p7⟩;have hD:=sE (hg.ok.gJ kk) hg.bP;refine⟨rfl,(((ku.mono (by simp)).trans k6 fun q hq=> .inl hq).trans k7 fun q hq=> .inl hq),_,t6.of k7 p7,⟨hD.ok, .inr ⟨h,q,iQ.2, ?_⟩⟩,rfl⟩;rw[<-Ua];exact(show Sub G h kk [] none L q from sW).kept fun z hz=>⟨fun hu=>(hD.bP z).2 ⟨hu,fun e=>iQ.1 (e▸hz)⟩,rfl⟩
    ·rw[aAB h0,aAH (by decide)];rw[aQ (n:=3) qa rfl,af];exact On s3 ku (.inr fun e=>h0 (by rw[e];rfl))
  |cons sm fL=>
   rw[aAH (show¬decide ((sm::fL).length=0)=true by simp)];refine fY qa ?_;refine(BQ t3.fr (v3.dM (by simp)) hg.Ly (by omega)).mono ?_;rintro _ s9 ⟨rfl,k9⟩;have PH:Kp [] st s9:=ku.trans k9 (by simp);have n9:=k9.next;have Um:=(k9.keep st.next (by omega) (by simp)).trans qa;have e6:aj .geq none true (I n.size) (.int .i64 128) s9= .ok (.bool (decide (128<=n.size))) s9:=by rw[aw,yq];congr 2;simp only[aBc];omega
   rw[e6,af,ag]
   by_cases XI:128<=n.size
   ·rw[aAJ XI,aAI rfl];refine fY Um ?_;exact On s9 PH (xV hg.Ly XI)
   ·rw[aAB XI,aAH (by decide)];have TT:=xp;obtain⟨_,_,_,_,_,_,_,_,_,_,Kt,Wc,ala,_⟩:=xp
    have abg:sm.n.cells.length<=512:=by
     have:=eR sm.n.leaf sm.n.cells;have:=Kt.size;rw[bX]at this;omega
    have Wd:=Kt.ok.jf;rw[Wc,aAH (by decide)]at Wd;obtain⟨HP,_⟩:=aAP.1 ala
    have kH:2<=sm.n.kids.length:=by
     rcases Kt.full with h|h
     ·rw[Wc]at h;cases h
     ·have:=aCK.2 h;omega
    have st9:=hst.mono (PH.mono (by simp))
    have e7:aj .sub none true (I (((sm::fL).length+1:Nat):Int)) (.int .i64 2) s9= .ok (I fL.length) s9:=by
     rw[aw,dW,aBb,bz (by simp at yR;omega)];congr 2;omega
    obtain⟨pC,mM,d1,d2,ER⟩:=st9.row (i:=fL.length) (by simp);have Xi:((sm::fL).reverse++[f])[fL.length]'(by simp)=sm:=by simp
    rw[Xi,Wc]at ER;rw[Xi]at d1 d2;rw[e7,af];refine ER _ ?_;refine nT d1.bG.2.1 d2.bG.2.1 ?_;have qH:Kp [] s9 (St.new s9 (.cells [I sm.page,I sm.at_, .bool false,pC,mM] 107 false)):=(Kp.refl [] s9).new _;have sy:(St.new s9 (.cells [I sm.page,I sm.at_, .bool false,pC,mM] 107 false)).mem.get s9.next=some (.cells [I sm.page,I sm.at_, .bool false,pC,mM] 107 false):=au _ _;have M3:(St.new s9 (.cells [I sm.page,I sm.at_, .bool false,pC,mM] 107 false)).next=s9.next+1:=rfl;generalize St.new s9 (.cells [I sm.page,I sm.at_, .bool false,pC,mM] 107 false)=bU at*;have CQ:Kp [] st bU:=PH.trans qH (by simp);have anH:=(qH.keep st.next (by omega) (by simp)).trans Um;have X2:=d2.mono (qH.mono (by simp));have d1':=d1.mono (qH.mono (by simp));have abM:=X2.len sm.n.kids.length (by simp) (by omega) bU;simp only[fl,ah,af,aA,sy,aq,aAF,Nat.reduceAdd,aAA,aAy,av,gF sm.at_ (by omega)];refine kX (fun vs s=>bU=s/\∃beside:Nat,vs=[.ptr τ 0,x, .ptr st.next 0, .ptr s9.next 0,I sm.at_,I beside]/\((beside=sm.at_+1/\sm.at_+1<sm.n.kids.length)\/(sm.at_=beside+1/\sm.at_+1=sm.n.kids.length))) ?_ ?_
    ·intro k' Bi;have e8:aj .eql (some .int) false (I ((sm.at_+1:Nat):Int)) (I sm.n.kids.length) bU= .ok (.bool (decide (sm.at_+1=sm.n.kids.length))) bU:=by rw[aw,cz];congr 2;simp only[aBc];omega
     simp only[abM,af,e8,ag]
     by_cases E0:sm.at_+1=sm.n.kids.length
     ·rw[aAJ E0,aAI rfl,xS sm.at_ (by omega) (by omega),af];exact Bi _ _ ⟨rfl,sm.at_-1,rfl, .inr ⟨by omega,E0⟩⟩
     ·rw[aAB E0,aAH (by decide)];exact Bi _ _ ⟨rfl,sm.at_+1,rfl, .inl ⟨rfl,by omega⟩⟩
    ·rintro _ _ ⟨rfl,beside,rfl,LK⟩
     have hB:∃(other:bg) (po left:Nat) (first second:bg) (sep:cc) (pf pn:Nat) (d:sQ),mL G po other/\sm.n.kids[beside]?=some po/\uo G h sm fL left first second sep pf pn (Ll++(L++Lr)) (f.page::(q++ps)) d/\
      ((beside=sm.at_+1/\left=sm.at_/\first=n/\second=other)\/(sm.at_=beside+1/\left=beside/\first=other/\second=n)):=by
      rcases LK with⟨e,hlt⟩|⟨e,hlt⟩
      ·obtain⟨other,pn,sep,d,x1,x2⟩:=JQ TT hg.bP hg.Ly kI hlt;exact⟨other,pn,_,_,_,sep,_,pn,d,x1,by rw[e];exact x2.Ra,x2, .inl ⟨e,rfl,rfl,rfl⟩⟩
      ·obtain⟨other,pf,sep,d,x1,x2⟩:=Mm TT hg.bP hg.Ly kI e;exact⟨other,pf,_,_,_,sep,pf,_,d,x1,x2.Nc,x2, .inr ⟨e,rfl,rfl,rfl⟩⟩
     obtain⟨other,po,left,first,second,sep,pf,pn,d,qw,hkb,Xv,abj⟩:=hB;rw[Ua]at Xv;obtain⟨sY,hbe⟩:=aAP.1 hkb;simp only[aJ,aK,ah,af,aA,sy,aq,aAF,Nat.reduceAdd,aAA,aAy,av];refine X2.idx (i:=beside) (by simpa using sY) _ ?_;have e9:(ck sm.n.kids)[beside]'(by simpa using sY)=I po:=by simp[ck,hbe]
     rw[e9];refine(xQ (ht.still CQ) qw).mono ?_;rintro _ eV ⟨xo,rfl,CE,hxo⟩;have n14:=CE.next;have T0:∀b∈π.W,b<bU.next:=fun b hb=>by have:=pZ b hb;have:=CQ.next;omega
     obtain⟨DF,DE,rfl,o1,o2⟩:=hxo π.W T0;simp only[aD,aN,af];refine sh o1.bG.2.1 o2.bG.2.1 ?_;have EK:Kp [] eV (St.new eV (.cells [.bool other.leaf,DF,DE] 105 false)):=(Kp.refl [] eV).new _;have Ou:(St.new eV (.cells [.bool other.leaf,DF,DE] 105 false)).mem.get eV.next=some (.cells [.bool other.leaf,DF,DE] 105 false):=au _ _;have n16:(St.new eV (.cells [.bool other.leaf,DF,DE] 105 false)).next=eV.next+1:=rfl;generalize St.new eV (.cells [.bool other.leaf,DF,DE] 105 false)=dd at*;have qv:Kp [] bU dd:=CE.trans EK (by simp);have adQ:=(qv.keep st.next (by have:=CQ.next;omega) (by simp)).trans anH;have Uj:=(qv.keep s9.next (by omega) (by simp)).trans sy;rw[e5,af,ag,aAH (by decide),bt];have yy:(St.new dd (.cells [.bool false, .ae, .ae] 105 false)).next=dd.next+1:=rfl;have kA:Kp [] dd (St.new (St.new dd (.cells [.bool false, .ae, .ae] 105 false)) (.cells [.bool false, .ae, .ae] 105 false)):=((Kp.refl [] dd).new _).new _;have Zh:(St.new (St.new dd (.cells [.bool false, .ae, .ae] 105 false)) (.cells [.bool false, .ae, .ae] 105 false)).mem.get dd.next=some (.cells [.bool false, .ae, .ae] 105 false):=(aZ _ _ _ (by simp)).trans (au _ _);have Zg:(St.new (St.new dd (.cells [.bool false, .ae, .ae] 105 false)) (.cells [.bool false, .ae, .ae] 105 false)).mem.get (dd.next+1)=some (.cells [.bool false, .ae, .ae] 105 false):=au (St.new dd (.cells [.bool false, .ae, .ae] 105 false)) _;have nA:(St.new (St.new dd (.cells [.bool false, .ae, .ae] 105 false)) (.cells [.bool false, .ae, .ae] 105 false)).next=dd.next+2:=rfl;rw[yy];generalize St.new (St.new dd (.cells [.bool false, .ae, .ae] 105 false)) (.cells [.bool false, .ae, .ae] 105 false)=sA at*;have aca:Kp [] st dd:=CQ.trans qv (by simp);have apX:=aca.next;have HF:∀(y:List CV) a b c,y.length=3->bp y 0 [a,b,c]=[a,b,c]:=fun y a b c hy=>dY _ _ (by simp[hy]);have g1A:=(kA.keep st.next (by omega) (by simp)).trans adQ;have adL:=(kA.keep eV.next (by omega) (by simp)).trans Ou
     have axy:=(kA.keep s9.next (by have:=qv.next;omega) (by simp)).trans Uj;obtain⟨q1,q2,q3⟩:=RX.bG;obtain⟨q4,q5,q6⟩:=LH.bG;obtain⟨q7,q8,q9⟩:=o1.bG;obtain⟨q10,q11,q12⟩:=o2.bG;rw[aQ (n:=3) g1A rfl,af,aQ (n:=3) adL rfl,af,jt Zh,aS,jt Zg,aS,aF,Zh,aR,aX,HF _ _ _ _ rfl];refine⟨⟨rfl,by simp[q2,q5],by simp⟩, ?_⟩;rw[aF,al _ _ _ _ (by omega),Zg,aR,aX,HF _ _ _ _ rfl];refine⟨⟨rfl,by simp[q8,q11],by simp⟩, ?_⟩;have anv:(St.set sA dd.next (.cells [.bool n.leaf,vc,vk] 105 false)).mem.get eV.next=_:=(al _ _ _ _ (by omega)).trans adL;rw[aQ (n:=3) anv rfl,af];refine⟨⟨trivial,⟨rfl,trivial⟩,trivial,trivial,trivial⟩,trivial, ?_⟩;have kC:Kp [] dd (St.set (St.set sA dd.next (.cells [.bool n.leaf,vc,vk] 105 false)) (dd.next+1) (.cells [.bool other.leaf,DF,DE] 105 false)):=(kA.set _ (.inr (aAE _)) (by omega)).set _ (.inr (by omega)) (by simp;omega);have gC1:(St.set (St.set sA dd.next (.cells [.bool n.leaf,vc,vk] 105 false)) (dd.next+1) (.cells [.bool other.leaf,DF,DE] 105 false)).mem.get dd.next=some (.cells [.bool n.leaf,vc,vk] 105 false):=(al _ _ _ _ (by omega)).trans (ao _ _ _);have gC2:(St.set (St.set sA dd.next (.cells [.bool n.leaf,vc,vk] 105 false)) (dd.next+1) (.cells [.bool other.leaf,DF,DE] 105 false)).mem.get (dd.next+1)=some (.cells [.bool other.leaf,DF,DE] 105 false):=ao _ _ _;have nC:(St.set (St.set sA dd.next (.cells [.bool n.leaf,vc,vk] 105 false)) (dd.next+1) (.cells [.bool other.leaf,DF,DE] 105 false)).next=dd.next+2:=nA;generalize St.set (St.set sA dd.next (.cells [.bool n.leaf,vc,vk] 105 false)) (dd.next+1) (.cells [.bool other.leaf,DF,DE] 105 false)=iK at*;have RK:Kp [] st iK:=aca.trans kC (by simp);have yI:Kp [] bU iK:=qv.trans kC (by simp);have adP:=(kC.keep st.next (by omega) (by simp)).trans adQ;have adM:=(kC.keep eV.next (by omega) (by simp)).trans Ou;have Ui:=(kC.keep s9.next (by have:=qv.next;omega) (by simp)).trans Uj;have aiT:IsNode iK π.W (.agg [.bool n.leaf,vc,vk]) n:=Ds.mono (RK.mono (by simp))
     have aiS:IsNode iK π.W (.agg [.bool other.leaf,DF,DE]) other:=⟨DF,DE,rfl,(o1.mono (EK.mono (by simp))).mono (kC.mono (by simp)),(o2.mono (EK.mono (by simp))).mono (kC.mono (by simp))⟩;have YV:=qw.size;refine kX (fun vs s=>∃Ur Uq cf kf cs ks,SF τ π st G h sm fL LL x s9.next vs s left first second sep pf pn (f.page::(q++ps)) d Ur Uq cf kf cs ks pC mM) ?_ ?_
     ·intro k72 abY;rw[dv,af,ag];rcases abj with⟨x1,rfl,rfl,rfl⟩|⟨x1,rfl,rfl,rfl⟩
      ·rw[aAB (by omega),aAH (by decide)];exact abY _ _ ⟨_,_,vc,vk,DF,DE,rfl,RK,⟨by omega,by omega,by omega⟩,⟨by omega,by omega,by omega⟩,Ui,gC1,gC2,aiT,aiS,⟨d1'.mono (yI.mono (by simp)),X2.mono (yI.mono (by simp))⟩,Xv,iQ,by omega⟩
      ·rw[aAJ (by omega),aAI rfl,bt,aQ (n:=3) adM rfl,af,aQ (n:=3) adP rfl,af,aF,gC1,aR,aX,HF _ _ _ _ rfl];refine⟨⟨rfl,by simp[q8,q11],by simp⟩, ?_⟩;rw[aF,al _ _ _ _ (by omega),gC2,aR,aX,HF _ _ _ _ rfl];refine⟨⟨rfl,by simp[q2,q5],by simp⟩, ?_⟩;have g1B:(St.set iK dd.next (.cells [.bool first.leaf,DF,DE] 105 false)).mem.get st.next=_:=(al _ _ _ _ (by omega)).trans adP;rw[aQ (n:=3) g1B rfl,af];refine⟨⟨trivial,⟨rfl,trivial⟩,trivial⟩,trivial, ?_⟩;have kE:Kp [dd.next,dd.next+1] iK (St.set (St.set iK dd.next (.cells [.bool first.leaf,DF,DE] 105 false)) (dd.next+1) (.cells [.bool second.leaf,vc,vk] 105 false)):=((Kp.refl _ iK).set (p:=dd.next) _ (.inl (by simp)) (by omega)).set (p:=dd.next+1) _ (.inl (by simp)) (by simp;omega);have nn2:=(Ds.dM (Y:=π.W++[dd.next,dd.next+1]) (by intro b hb;simp at hb;rcases hb with h|h|h;exact .inl h;right;omega;right;omega)).mono (RK.mono (by simp));have oo1:=(((hxo (π.W++[]) (by simpa using T0)).dM (Y:=π.W++[dd.next,dd.next+1]) (by intro b hb;simp at hb⊢;rcases hb with h|h|h;exact .inl h;right;omega;right;omega)).mono (EK.mono (by simp))).mono (kC.mono (by simp));have RZ:∀b∈[dd.next,dd.next+1],b∈π.W++[dd.next,dd.next+1]\/iK.next<=b:=fun b hb=> .inl (by simp at hb⊢;rcases hb with h|h<;>simp[h]);refine abY _ _ ⟨dd.next,dd.next+1,DF,DE,vc,vk,rfl,(RK.mono (by simp)).trans kE (by intro b hb;simp at hb;right;omega),⟨by simp;omega,by simp;omega,by simp;omega⟩,⟨by omega,by omega,by omega⟩,(al _ _ _ _ (by have:=qv.next;omega)).trans ((al _ _ _ _ (by have:=qv.next;omega)).trans Ui),(al _ _ _ _ (by omega)).trans (ao _ _ _),ao _ _ _,(oo1.mono (kE.mono RZ)).dM (by intro b hb;simp[hb]),(nn2.mono (kE.mono RZ)).dM (by intro b hb;simp[hb]),⟨?_, ?_⟩,Xv,iQ,by omega⟩
       ·have:=((d1'.dM (Y:=π.W++[dd.next,dd.next+1]) (by intro b hb;simp at hb;rcases hb with h|h|h;exact .inl h;right;have:=qv.next;omega;right;have:=qv.next;omega)).mono (yI.mono (by simp))).mono (kE.mono RZ);exact this.dM (by intro b hb;simp[hb])
       ·have:=((X2.dM (Y:=π.W++[dd.next,dd.next+1]) (by intro b hb;simp at hb;rcases hb with h|h|h;exact .inl h;right;have:=qv.next;omega;right;have:=qv.next;omega)).mono (yI.mono (by simp))).mono (kE.mono RZ);exact this.dM (by intro b hb;simp[hb])
     ·rintro vs fy ⟨Ur,Uq,cf,kf,cs,ks,⟨rfl,K21,⟨l53,l68,l69⟩,⟨w53,w68,w69⟩,g53,g68,g69,N1,N2,⟨p1,p2⟩,B,-,ajH⟩⟩;have apA:=B;obtain⟨Z2,EZ,wX,cL,hcL,hcK⟩:=ui B;have ayw:=K21.next;simp only[aJ,aK]
      have HM:∀K:CV->Prop,K (.agg [.bool false,pC,mM])->LN 3 2 (.ptr s9.next 0) fy K:=fun K hK=>by
       unfold LN;rw[ah,af,gH (n:=3) g53 (by simp),af];exact hK
      refine HM _ ?_;refine sh p1.bG.2.1 p2.bG.2.1 ?_;have VU:Kp [] fy (St.new fy (.cells [.bool false,pC,mM] 105 false)):=(Kp.refl [] fy).new _;have XS:(St.new fy (.cells [.bool false,pC,mM] 105 false)).mem.get fy.next=some (.cells [.bool false,pC,mM] 105 false):=au _ _;have n22:(St.new fy (.cells [.bool false,pC,mM] 105 false)).next=fy.next+1:=rfl;generalize St.new fy (.cells [.bool false,pC,mM] 105 false)=zX at*;rw[bt,ah,af,aA,XS,aq];simp only[aAF,aAA,aAy,av];refine(vx ((p1.dM (Y:=[]) (by simp)).mono (VU.mono (by simp))) (eM _) (by rw[bL];omega)).mono ?_;rintro xc pL ⟨F1,Aj,o1,KO,_⟩;have n23:=Aj.next;have HV:=(Aj.keep fy.next (by omega) (by simp)).trans XS;rw[ah,af,aA,HV,aq];simp only[aAF,aAA,aAy,av];have Te:Kp [] fy pL:=VU.trans Aj (by simp);refine(zp ((p2.dM (Y:=[]) (by simp)).mono (Te.mono (by simp))) (jc _) (by rw[oY];omega)).mono ?_;rintro xk iH ⟨F2,kc2,o2,fF2,_⟩;have n24:=kc2.next;have PR:=(kc2.keep fy.next (by omega) (by simp)).trans HV;have aaE:Kp [] fy iH:=Te.trans kc2 (by simp);obtain⟨Vx,QR⟩:=o1.cr;obtain⟨od1,od2⟩:=o2.cr;rw[ah,af,aF,PR,aR,QR];refine⟨⟨rfl,by simp[Vx],by simp⟩, ?_⟩;rw[ah,af,aF,ao,aR,od2];refine⟨⟨rfl,by simp[od1],by simp[bp]⟩, ?_⟩;rw[aA,XS,aq];refine⟨⟨trivial,⟨rfl,trivial⟩,trivial⟩,trivial, ?_⟩;have Td:Kp [] fy (St.set (St.set iH fy.next (.cells (bp [.bool false,pC,mM] (0+1) [xc]) 105 false)) fy.next (.cells (bp (bp [.bool false,pC,mM] (0+1) [xc]) (0+2) [xk]) 105 false)):=(aaE.set _ (.inr (aAE _)) (by omega)).set _ (.inr (aAE _)) (by simp;omega);have g25:(St.set (St.set iH fy.next (.cells (bp [.bool false,pC,mM] (0+1) [xc]) 105 false)) fy.next (.cells (bp (bp [.bool false,pC,mM] (0+1) [xc]) (0+2) [xk]) 105 false)).mem.get fy.next=some (.cells [.bool false,xc,xk] 105 false):=ao _ _ _;have n25:(St.set (St.set iH fy.next (.cells (bp [.bool false,pC,mM] (0+1) [xc]) 105 false)) fy.next (.cells (bp (bp [.bool false,pC,mM] (0+1) [xc]) (0+2) [xk]) 105 false)).next=iH.next:=rfl;have tp:∀b∈F1,fy.next<b/\b<pL.next:=fun b hb=>by have:=KO b hb;omega
      have sn:∀b∈F2,pL.next<=b/\b<iH.next:=fF2;have aal:Own (St.set (St.set iH fy.next (.cells (bp [.bool false,pC,mM] (0+1) [xc]) 105 false)) fy.next (.cells (bp (bp [.bool false,pC,mM] (0+1) [xc]) (0+2) [xk]) 105 false)) xc 4 109 (bC sm.n.cells) F1:=(o1.keep kc2 fun b hb=>⟨(tp b hb).2,by simp⟩).mono fun b hb=>by have:=tp b hb;rw[al _ _ _ _ (by omega),al _ _ _ _ (by omega)]
      have aiI:Own (St.set (St.set iH fy.next (.cells (bp [.bool false,pC,mM] (0+1) [xc]) 105 false)) fy.next (.cells (bp (bp [.bool false,pC,mM] (0+1) [xc]) (0+2) [xk]) 105 false)) xk 1 3 (ck sm.n.kids) F2:=o2.mono fun b hb=>by have:=sn b hb;rw[al _ _ _ _ (by omega),al _ _ _ _ (by omega)]
      generalize St.set (St.set iH fy.next (.cells (bp [.bool false,pC,mM] (0+1) [xc]) 105 false)) fy.next (.cells (bp (bp [.bool false,pC,mM] (0+1) [xc]) (0+2) [xk]) 105 false)=lP at*;have YD:Kp [] lP (St.new lP (.cells [.bool false, .ae, .ae] 105 false)):=(Kp.refl [] lP).new _;have adN:(St.new lP (.cells [.bool false, .ae, .ae] 105 false)).mem.get lP.next=some (.cells [.bool false, .ae, .ae] 105 false):=au _ _;have n26:(St.new lP (.cells [.bool false, .ae, .ae] 105 false)).next=lP.next+1:=rfl;rw[bt];generalize St.new lP (.cells [.bool false, .ae, .ae] 105 false)=xy at*;have A9:Kp [] fy xy:=Td.trans YD (by simp);have XR:=(YD.keep fy.next (by omega) (by simp)).trans g25;have adK:=(A9.keep Ur (by omega) (by simp)).trans g68;have adJ:=(A9.keep Uq (by omega) (by simp)).trans g69;have Z0:Sl xy [] xc 4 (sm.n.cells.map aU).flatten:=(aal.keep YD fun b hb=>⟨by have:=tp b hb;omega,by simp⟩).sl fun b hb=>⟨by simp,by have:=tp b hb;omega⟩;have WM:left<(sm.n.cells.map aU).length:=by simpa using EZ
      obtain⟨cb,cp,cl,ct,cg,q1',q2',q3',q4',q5'⟩:=Z0.cellAt (by omega) (fJ _) (i:=left) WM
      have alX:sm.n.cells[left]=cL:=by
       obtain⟨_,h⟩:=aAP.1 hcL;exact h
      have E6:cl[cp]?=some (.str sep):=by
       have:=q5' 0 (.str sep) (by simp[alX,aU,hcK])
       rwa [aBl]at this
      refine fY adK ?_;simp only[af,aA,XR,aq,aAF,aAA,aAy,av,q1',ah,q2',aBl,E6];refine fY adJ ?_;have Jm:first.cells.length<=700:=by have:=eR first.leaf first.cells;have:=ajH;rw[bX]at this;omega
      have Gu:second.cells.length<=700:=by
       have:=eR second.leaf second.cells;have h3:=bX second;omega
      have amh:first.kids.length<=1001:=by rw[B.ok1.jf];split<;>omega
      have amg:second.kids.length<=1001:=by rw[B.ok2.jf];split<;>omega
      have anK:cY xy:=A9.fresh (K21.fresh ht.fr);obtain⟨J1,J2,J3⟩:=B.c1.join B.c2 B.ok1 B.ok2 Z2;refine(SD anK ((N1.dM (by simp)).mono A9) ((N2.dM (by simp)).mono A9) (by omega) (by omega) amh amg).mono ?_;rintro xw zK ⟨VS,hxw⟩;have n28:=VS.next;have amD:Kp [] st xy:=K21.trans A9 (by simp);have aqG:=amD.next;obtain⟨cw,kw,rfl,w1,w2⟩:=hxw (π.W++[]) (by intro b hb;simp at hb;have:=pZ b hb;omega);have Ul:=(VS.keep lP.next (by omega) (by simp)).trans adN;have als:=(VS.keep fy.next (by omega) (by simp)).trans XR;rw[jt Ul,aS,aF,Ul,aR,aX,HF _ _ _ _ rfl];refine⟨⟨rfl,by simp[w1.bG.2.1,w2.bG.2.1],by simp⟩, ?_⟩;rw[jt adN,aS];refine⟨⟨trivial,trivial,trivial,trivial,⟨rfl,trivial⟩,trivial⟩,trivial, ?_⟩;have Nh:Kp [] lP (St.set zK lP.next (.cells [.bool (dy first sep second).leaf,cw,kw] 105 false)):=(YD.trans VS (by simp)).set _ (.inr (aAE _)) (by omega);have g30:(St.set zK lP.next (.cells [.bool (dy first sep second).leaf,cw,kw] 105 false)).mem.get lP.next=some (.cells [.bool (dy first sep second).leaf,cw,kw] 105 false):=ao _ _ _;have amS:(St.set zK lP.next (.cells [.bool (dy first sep second).leaf,cw,kw] 105 false)).mem.get fy.next=some (.cells [.bool false,xc,xk] 105 false):=(al _ _ _ _ (by omega)).trans als;have n30:(St.set zK lP.next (.cells [.bool (dy first sep second).leaf,cw,kw] 105 false)).next=zK.next:=rfl
      have aan:IsNode (St.set zK lP.next (.cells [.bool (dy first sep second).leaf,cw,kw] 105 false)) (π.W++[lP.next]) (.agg [.bool (dy first sep second).leaf,cw,kw]) (dy first sep second):=by
       obtain⟨cw2,kw2,e,w3,w4⟩:=hxw (π.W++[lP.next]) (by intro b hb;simp at hb;rcases hb with h|h;have:=pZ b h;omega;omega);simp only[CV.agg.injEq,aCm,and_true,aCC]at e;obtain⟨rfl,rfl⟩:=e;have kk:Kp [lP.next] zK (St.set zK lP.next (.cells [.bool (dy first sep second).leaf,cw,kw] 105 false)):=(Kp.refl _ zK).set _ (.inl (by simp)) (by omega);exact⟨cw,kw,rfl,w3.mono (kk.mono (by intro b hb;left;simp at hb⊢;exact .inr hb)),w4.mono (kk.mono (by intro b hb;left;simp at hb⊢;exact .inr hb))⟩
      generalize St.set zK lP.next (.cells [.bool (dy first sep second).leaf,cw,kw] 105 false)=SO at*;have aaD:Kp [] fy SO:=Td.trans Nh (by simp);have adk:Kp [] st SO:=K21.trans aaD (by simp);have aiN:Own SO xc 4 109 (bC sm.n.cells) F1:=aal.keep Nh fun b hb=>⟨by have:=tp b hb;omega,by simp⟩;have aiH:Own SO xk 1 3 (ck sm.n.kids) F2:=aiI.keep Nh fun b hb=>⟨by have:=sn b hb;omega,by simp⟩;refine fY g30 ?_
      have hjc:(dy first sep second).cells.length<=1000:=by
       have:=eR (dy first sep second).leaf (dy first sep second).cells;have h3:=bX (dy first sep second);omega
      have anJ:cY SO:=adk.fresh ht.fr;refine(BQ anJ (aan.dM (by simp)) J2 hjc).mono ?_;rintro _ xx ⟨rfl,VQ⟩;have n31:=VQ.next;have Fl:Kp [] st xx:=adk.trans VQ (by simp);have g31:=(VQ.keep lP.next (by omega) (by simp)).trans g30;have XK:=(VQ.keep fy.next (by omega) (by simp)).trans amS;have aak:Own xx xc 4 109 (bC sm.n.cells) F1:=aiN.keep VQ fun b hb=>⟨by have:=tp b hb;omega,by simp⟩;have Vy:Own xx xk 1 3 (ck sm.n.kids) F2:=aiH.keep VQ fun b hb=>⟨by have:=sn b hb;omega,by simp⟩;have aam:=aan.mono (VQ.mono (by simp));have t31:=ht.still Fl;have atb:=hst.mono (Fl.mono (by simp));have anR:aj .leq none true (I (dy first sep second).size) (.int .i64 512) xx= .ok (.bool (decide ((dy first sep second).size<=512))) xx:=by rw[aw,oT];congr 2;simp only[aBc];omega
      rw[anR,af,ag]
      have wc:∀(i:Nat) (p:Nat),sm.n.kids[i]?=some p->∀s,Kp π.W xx s->∃a,cQ 1 xk (I i) s= .ok a s/\∀K:CV->Prop,K (I p)->us (aC a s) K:=by
       intro i p hi s hs;obtain⟨Dw,hie⟩:=aAP.1 hi
       have kL:Sl s π.W xk 1 ((ck sm.n.kids).map fun x=>[x]).flatten:=by
        have h2:Sl xx π.W xk 1 (ck sm.n.kids):=Vy.sl fun b hb=>⟨ur b (by have:=sn b hb;omega),by have:=sn b hb;omega⟩;have e:((ck sm.n.kids).map fun x=>[x]).flatten=ck sm.n.kids:=by simp[<-List.flatMap_def]
        rw[e];exact h2.mono hs
       obtain⟨b,p',l,t,g,a1,a2,a3,a4,a5⟩:=kL.cellAt (by omega) (by simp) (i:=i) (by simpa using Dw);refine⟨_,a1 s,fun K hK=> ?_⟩;have:=a5 0 (I p) (by simp[ck,hie]);rw[aBl]at this;rw[aA,a2,aq,this];exact hK
      by_cases CX:(dy first sep second).size<=512
      ·rw[aAJ CX,aAI rfl,bt];obtain⟨g_u,XP,anl,anm⟩:=FO B hg.ok iQ CX;have fP:∀b,st.next<=b->b∉π.all/\b≠τ:=fun b hb=>⟨fun hh=>by have:=ht.pg.lt b hh;omega,fun e=>by have:=ht.lt;omega⟩;obtain⟨pa1,Oc,Xy⟩:=wc left pf B.Nc xx (Kp.refl _ _);simp only[af,aA,XK,aq,aAF,aAA,aAy,av,ah,Oc];refine Xy _ ?_;refine fY g31 ?_;refine(mX t31 B.u1 (aam.dM (by simp)) J2 CX).mono ?_;rintro _ JT ⟨rfl,Tb,t32⟩;have n32:=Tb.next;have adj:=Fl.next;have adA:=(Tb.keep fy.next (by omega) (ur _ (by omega))).trans XK;obtain⟨pa2,Dz,Xx⟩:=wc (left+1) pn B.Ra JT Tb;obtain⟨asV,axh,alq⟩:=t32.get;rw[e5,af,ag,aAH (by decide),bt,br,af];simp only[alq,aq,aAF,aAA,aAy,av,adA,gF left (by omega),af,ah,aA,Dz];refine⟨⟨trivial,trivial,trivial,trivial⟩,trivial, ?_⟩;refine Xx _ ?_;refine(Cc t32.pg g_u).mono ?_;rintro _ JS ⟨rfl,VP,p33⟩;have n33:=VP.next;have t33:=t32.of VP p33;have Ng:Kp π.W xx JS:=Tb.trans VP fun q hq=> .inl hq;have adz:=(VP.keep fy.next (by omega) (ur _ (by omega))).trans adA;have aiM:Own JS xc 4 109 (bC sm.n.cells) F1:=aak.keep Ng fun b hb=>⟨by have:=tp b hb;omega,ur b (by have:=tp b hb;omega)⟩;have aiG:Own JS xk 1 3 (ck sm.n.kids) F2:=Vy.keep Ng fun b hb=>⟨by have:=sn b hb;omega,ur b (by have:=sn b hb;omega)⟩;refine⟨⟨trivial,trivial,trivial,trivial⟩,trivial, ?_⟩;have adU:∀s,aj .add none true (I left) (.int .i64 2) s= .ok (I ((left+1+1:Nat):Int)) s:=fun s=>by rw[aw,cE,bz (by omega)];rfl
       rw[e5,af,ag,aAH (by decide),bt];simp only[aq,aAA,aAy,av,adz,gF left (by omega),af];refine(FB (n:=sm.n.cells.length) aiM (bL _) (by omega) (fun b hb=>by have:=tp b hb;omega) (eM _) EZ).mono ?_;rintro xu Vj ⟨o34,k34,n34⟩;have ady:=(k34.keep fy.next (by omega) (fun hh=>by have:=tp _ hh;omega)).trans adz;have aiF:Own Vj xk 1 3 (ck sm.n.kids) F2:=aiG.keep k34 fun b hb=>⟨by have:=sn b hb;omega,fun hh=>by have:=tp b hh;have:=sn b hb;omega⟩;simp only[aq,aAA,aAy,av,ady,adU,af];refine(KT (n:=sm.n.kids.length) (i:=left+1) aiF (by simp) (by omega) (fun b hb=>by have:=sn b hb;omega) (jc _) (by omega)).mono ?_;rintro uz Lw ⟨o35,Lz,n35⟩;have amR:=(Lz.keep fy.next (by omega) (fun hh=>by have:=sn _ hh;omega)).trans ady
       have Ml:Sl Lw (π.W++(fy.next::F2)) xu 4 ((bC sm.n.cells).take (left*4)++(bC sm.n.cells).drop ((left+1)*4)):=(o34 (π.W++(fy.next::F2)) (fun b hb hh=>by
        have:=tp b hb;simp at hh;rcases hh with hh|hh|hh
        ·exact ur b (by omega) hh
        ·omega
        ·have:=sn b hh;omega)).mono (Lz.mono (by intro q hq;left;simp[hq]))
       have Mk:Sl Lw (π.W++[fy.next]) uz 1 ((ck sm.n.kids).take ((left+1)*1)++(ck sm.n.kids).drop ((left+1+1)*1)):=o35 _ fun b hb hh=>by
        have:=sn b hb;simp at hh;rcases hh with hh|hh
        ·exact ur b (by omega) hh
        ·omega
       have ec:(bC sm.n.cells).take (left*4)++(bC sm.n.cells).drop ((left+1)*4)=bC (sV sm.n left).cells:=by
        rw[kz _ _ (by omega),kD _ _ (by omega),<-gS];rfl
       have ek:(ck sm.n.kids).take ((left+1)*1)++(ck sm.n.kids).drop ((left+1+1)*1)=ck (sV sm.n left).kids:=by
        rw[aCo,aCo,tY,tZ,<-mT];rfl
       rw[ec]at Ml;rw[ek]at Mk;obtain⟨z1,z2,z3⟩:=Ml.bG;obtain⟨z4,z5,z6⟩:=Mk.bG;have qA:bp [.bool false,xc,xk] 1 [xu]=[.bool false,xu,xk]:=rfl;have kG:bp [.bool false,xu,xk] 2 [uz]=[.bool false,xu,uz]:=rfl;rw[aF,amR,aR,z3,qA];refine⟨⟨rfl,by simp[z2],by simp⟩, ?_⟩;rw[aF,ao,aR,z6,kG];refine⟨⟨rfl,by simp[z5],by simp⟩,⟨trivial,⟨trivial,trivial⟩,trivial⟩,trivial, ?_⟩;have Nd:Kp [fy.next] Lw (St.set (St.set Lw fy.next (.cells [.bool false,xu,xk] 105 false)) fy.next (.cells [.bool false,xu,uz] 105 false)):=((Kp.refl _ Lw).set _ (.inl (by simp)) (by omega)).set _ (.inl (by simp)) (by simp;omega);have amQ:(St.set (St.set Lw fy.next (.cells [.bool false,xu,xk] 105 false)) fy.next (.cells [.bool false,xu,uz] 105 false)).mem.get fy.next=some (.cells [.bool (sV sm.n left).leaf,xu,uz] 105 false):=ao _ _ _;have n37:(St.set (St.set Lw fy.next (.cells [.bool false,xu,xk] 105 false)) fy.next (.cells [.bool false,xu,uz] 105 false)).next=Lw.next:=rfl;generalize St.set (St.set Lw fy.next (.cells [.bool false,xu,xk] 105 false)) fy.next (.cells [.bool false,xu,uz] 105 false)=Ps at*
       have VA:IsNode Ps π.W (.agg [.bool (sV sm.n left).leaf,xu,uz]) (sV sm.n left):=
        ⟨xu,uz,rfl,(Ml.mono (Nd.mono (by intro q hq;left;simp at hq;simp[hq]))).dM (by intro q hq;left;simp[hq]),(Mk.mono (Nd.mono (by intro q hq;left;simp at hq;simp[hq]))).dM (by intro q hq;left;simp[hq])⟩
       have Ta:Kp (F1++(F2++[fy.next])) JS Ps:=((k34.mono (by intro q hq;left;simp[hq])).trans Lz (by intro q hq;left;simp[hq])).trans Nd (by intro q hq;left;simp at hq;simp[hq])
       have nN:∀q∈F1++(F2++[fy.next]),st.next<=q:=by
        intro q hq;simp at hq;rcases hq with hq|hq|hq
        ·have:=tp q hq;omega
        ·have:=sn q hq;omega
        ·omega
       have t37:=t33.vg Ta fun b hb=>fP b (nN b hb);have amC:Kp π.W st JS:=(Fl.mono (by simp)).trans Ng fun q hq=> .inl hq;have adi:Kp π.W st Ps:=amC.trans Ta fun q hq=> .inr (nN q hq);have aie:=hst.mono adi;have XX:∀s,aj .sub none true (I (((sm::fL).length+1:Nat):Int)) (.int .i64 1) s= .ok (I ((fL.length+1:Nat):Int)) s:=e3;obtain⟨LU,LA,V0⟩:=aie.hi (m:=fL.length+1) (by simp) Ps
       have OG:((sm::fL).reverse++[f]).take (fL.length+1)=fL.reverse++[sm]:=by
        rw[aBW (by simp)];simp
       rw[OG]at V0;rw[bt,hlen,af,XX,af,LA,af];refine fY amQ ?_;simp only[aBb]at iE hm yR;refine(ih fL.length (by omega) fL rfl t37 XP (by omega) (by omega) V0 VA (by omega)).mono ?_;rintro _ s38 ⟨rfl,k38,G',t38,ahX,qz⟩;exact⟨⟨trivial,trivial⟩,trivial,rfl,adi.trans k38 fun q hq=> .inl hq,G',t38,ahX,qz⟩
      ·rw[aAB CX,aAH (by decide)];have fP:∀b,st.next<=b->b∉π.all/\b≠τ:=fun b hb=>⟨fun hh=>by have:=ht.pg.lt b hh;omega,fun e=>by have:=ht.lt;omega⟩;obtain⟨i,E9,H⟩:=OU J2 (by omega) (by omega)
       have NP:cq (dy first sep second)<(dy first sep second).cells.length:=by
        have:=H.lt;unfold cq;cases fV:(dy first sep second).leaf with
        |false=>simp;omega
        |true=>
         rw[aAI rfl];have hA:=H.Yz;rcases H.eqs with⟨_,e,_⟩|⟨h,_⟩
         ·rw[e]at hA
          have:0<i:=by
           rcases Nat.eq_zero_or_pos i with h0|h0
           ·exact absurd (by show(dy first sep second).cells.take i=[];rw[h0,aCr]) hA
           ·exact h0
          omega
         ·rw[fV]at h;cases h
       obtain⟨ME,Vn,r_u,Vo⟩:=Dj B hg.ok iQ H;have Am:(wo (dy first sep second)).2.1.length<=48:=by rw[H.key];exact(J2.cell _ (aAW ..)).key
       refine fY g31 ?_;have anI:cY xx:=Fl.fresh ht.fr;have adj:=Fl.next;refine(Pj anI (aam.dM (by simp)) J2 (by omega) NP).mono ?_;rintro _ sU ⟨xa,xb,rfl,k39,hxa,hxb⟩;generalize alT:wo (dy first sep second)=cu at*;obtain⟨a,sp,b⟩:=cu;simp only at H hxa hxb ME Vn r_u Vo Am;have n39:=k39.next;have TZ:∀q∈π.W,q<xx.next:=fun q hq=>by have:=pZ q hq;omega
       obtain⟨ca,ka,rfl,Zu,Zt⟩:=hxa π.W TZ;obtain⟨cb,kb,rfl,Zs,Zr⟩:=hxb π.W TZ;have za2:=Zu.bG.2.1;have zb2:=Zt.bG.2.1;have zc2:=Zs.bG.2.1;have zd2:=Zr.bG.2.1;have yy:(St.new sU (.cells [.bool false, .ae, .ae] 105 false)).next=sU.next+1:=rfl;rw[aD,af,aN,aD,af,aN,aN,aD,af,cG,aS,cG,aS,yy];have kA:Kp [] sU (St.new (St.new sU (.cells [.bool false, .ae, .ae] 105 false)) (.cells [.bool false, .ae, .ae] 105 false)):=((Kp.refl [] sU).new _).new _;have Zh:(St.new (St.new sU (.cells [.bool false, .ae, .ae] 105 false)) (.cells [.bool false, .ae, .ae] 105 false)).mem.get sU.next=some (.cells [.bool false, .ae, .ae] 105 false):=(aZ _ _ _ (by simp)).trans (au _ _);have Zg:(St.new (St.new sU (.cells [.bool false, .ae, .ae] 105 false)) (.cells [.bool false, .ae, .ae] 105 false)).mem.get (sU.next+1)=some (.cells [.bool false, .ae, .ae] 105 false):=au (St.new sU (.cells [.bool false, .ae, .ae] 105 false)) _;have nA:(St.new (St.new sU (.cells [.bool false, .ae, .ae] 105 false)) (.cells [.bool false, .ae, .ae] 105 false)).next=sU.next+2:=rfl;generalize St.new (St.new sU (.cells [.bool false, .ae, .ae] 105 false)) (.cells [.bool false, .ae, .ae] 105 false)=Vi at*;rw[aF,Zh,aR,aX,HF _ _ _ _ rfl];refine⟨⟨rfl,by simp[za2,zb2],by simp⟩, ?_⟩;rw[aF,al _ _ _ _ (by omega),Zg,aR,aX,HF _ _ _ _ rfl];refine⟨⟨rfl,by simp[zc2,zd2],by simp⟩, ?_⟩;have kB:Kp [] sU (St.set (St.set Vi sU.next (.cells [.bool a.leaf,ca,ka] 105 false)) (sU.next+1) (.cells [.bool b.leaf,cb,kb] 105 false)):=(kA.set _ (.inr (aAE _)) (by omega)).set _ (.inr (by omega)) (by simp;omega);have gB1:(St.set (St.set Vi sU.next (.cells [.bool a.leaf,ca,ka] 105 false)) (sU.next+1) (.cells [.bool b.leaf,cb,kb] 105 false)).mem.get sU.next=some (.cells [.bool a.leaf,ca,ka] 105 false):=(al _ _ _ _ (by omega)).trans (ao _ _ _);have gB2:(St.set (St.set Vi sU.next (.cells [.bool a.leaf,ca,ka] 105 false)) (sU.next+1) (.cells [.bool b.leaf,cb,kb] 105 false)).mem.get (sU.next+1)=some (.cells [.bool b.leaf,cb,kb] 105 false):=ao _ _ _
       have nB:(St.set (St.set Vi sU.next (.cells [.bool a.leaf,ca,ka] 105 false)) (sU.next+1) (.cells [.bool b.leaf,cb,kb] 105 false)).next=sU.next+2:=nA;generalize St.set (St.set Vi sU.next (.cells [.bool a.leaf,ca,ka] 105 false)) (sU.next+1) (.cells [.bool b.leaf,cb,kb] 105 false)=Lv at*;have IY:Kp [] xx Lv:=k39.trans kB (by simp);have adh:Kp [] st Lv:=Fl.trans IY (by simp);have t43:=ht.still adh;have adx:=(IY.keep fy.next (by omega) (by simp)).trans XK;have aiY:IsNode Lv π.W (.agg [.bool a.leaf,ca,ka]) a:=⟨ca,ka,rfl,Zu.mono (kB.mono (by simp)),Zt.mono (kB.mono (by simp))⟩;have aiW:IsNode Lv π.W (.agg [.bool b.leaf,cb,kb]) b:=⟨cb,kb,rfl,Zs.mono (kB.mono (by simp)),Zr.mono (kB.mono (by simp))⟩;obtain⟨pa1,Oc,Xy⟩:=wc left pf B.Nc Lv (IY.mono (by simp));simp only[bt,af,aA,adx,aq,aAF,aAA,aAy,av,ah,Oc];refine Xy _ ?_;refine fY gB1 ?_;refine(mX t43 B.u1 (aiY.dM (by simp)) H.Vw H.ZR).mono ?_;rintro _ Lu ⟨rfl,k44,t44⟩;have n44:=k44.next;have aqF:=adh.next;have adw:=(k44.keep fy.next (by omega) (ur _ (by omega))).trans adx;have ann:=(k44.keep (sU.next+1) (by omega) (ur _ (by omega))).trans gB2;refine⟨⟨trivial,trivial,trivial,trivial⟩,trivial, ?_⟩;have Tc:Kp π.W xx Lu:=(IY.mono (by simp)).trans k44 fun q hq=> .inl hq;obtain⟨pa2,Dz,Xx⟩:=wc (left+1) pn B.Ra Lu Tc;simp only[e5,ag,aAz,aAO,af,aA,adw,aq,aAF,aAA,aAy,av,ah,gF left (by omega),Dz];refine Xx _ ?_;refine fY ann ?_;refine(mX t44 r_u ((aiW.mono k44).dM (by simp)) H.okB H.szB).mono ?_;rintro _ zJ ⟨rfl,Rg,t45⟩;have n45:=Rg.next;have adv:=(Rg.keep fy.next (by omega) (ur _ (by omega))).trans adw;have Nf:Kp π.W xx zJ:=Tc.trans Rg fun q hq=> .inl hq;have aiL:Own zJ xc 4 109 (bC sm.n.cells) F1:=aak.keep Nf fun b hb=>⟨by have:=tp b hb;omega,ur b (by have:=tp b hb;omega)⟩;have aiE:Own zJ xk 1 3 (ck sm.n.kids) F2:=Vy.keep Nf fun b hb=>⟨by have:=sn b hb;omega,ur b (by have:=sn b hb;omega)⟩;refine⟨⟨trivial,trivial,trivial,trivial⟩,trivial, ?_⟩
       have mC:bD [.str [], .str [], .int .i64 0, .int .i64 0] [(0,1, .str sp)] zJ= .ok (.agg (aU (fK sp))) zJ:=rfl;simp only[e5,ag,aAz,aAO,af,fl,aA,adv,aq,aAF,aAA,aAy,av,ah,mC];obtain⟨bc,rfl,zf,anf⟩:=lG aiL (by omega) (bL _) (by omega);have hbc:=tp bc (by simp[zf])
       have Y3:cQ 4 (.slice bc 0 sm.n.cells.length sm.n.cells.length 4) (I left) zJ= .ok (.ptr bc (left*4)) zJ:=by
        have:=gf (size:=4) (off:=0) (cap:=sm.n.cells.length) (grow:=4) EZ (.inr (aAE _)) zJ (b:=bc)
        rwa [aAF]at this
       have Ww:bp (bC sm.n.cells) (left*4) (aU (fK sp))=bC (iY sm.n left sp).cells:=by
        unfold bC;rw[wi (fJ _) _ (by simpa using EZ) _ rfl];unfold iY;rw[aCQ,aAI (by simpa using EZ)];simp[aCk,aBZ]
       unfold EN;rw[Y3,af,aF,anf,aR,aX,Ww];refine⟨⟨rfl,rfl,by rw[bL];omega⟩, ?_⟩;have k46:Kp [bc] zJ (St.set zJ bc (.cells (bC (iY sm.n left sp).cells) 109 true)):=(Kp.refl _ zJ).set _ (.inl (by simp)) (by omega);have ane:(St.set zJ bc (.cells (bC (iY sm.n left sp).cells) 109 true)).mem.get bc=some (.cells (bC (iY sm.n left sp).cells) 109 true):=ao _ _ _;have n46:(St.set zJ bc (.cells (bC (iY sm.n left sp).cells) 109 true)).next=zJ.next:=rfl;generalize St.set zJ bc (.cells (bC (iY sm.n left sp).cells) 109 true)=Mt at*;have amP:Mt.mem.get fy.next=some (.cells [.bool (iY sm.n left sp).leaf, .slice bc 0 sm.n.cells.length sm.n.cells.length 4,xk] 105 false):=(k46.keep fy.next (by omega) (by simp;omega)).trans adv;have XY:(iY sm.n left sp).cells.length=sm.n.cells.length:=by unfold iY;simp;omega
       have aiD:Own Mt xk 1 3 (ck sm.n.kids) F2:=aiE.keep k46 fun b hb=>⟨by have:=sn b hb;omega,by have:=sn b hb;simp;omega⟩
       have Vz:IsNode Mt π.W (.agg [.bool (iY sm.n left sp).leaf, .slice bc 0 sm.n.cells.length sm.n.cells.length 4,xk]) (iY sm.n left sp):=
        ⟨_,_,rfl, .inr ⟨bc,0,_,_,4,rfl,by rw[bL,XY],⟨aAE _, .inr rfl⟩, .inr ⟨ur _ (by omega),by omega,_,_,_,ane,by rw[bL,XY];omega,by rw[aBg,aAK (by rw[bL,XY];omega)]⟩⟩,aiD.sl fun b hb=>⟨ur b (by have:=sn b hb;omega),by have:=sn b hb;omega⟩⟩
       have t46:=t45.vg k46 fun b hb=>fP b (by simp at hb;omega);have amB:Kp π.W st zJ:=(Fl.mono (by simp)).trans Nf fun q hq=> .inl hq;have adg:Kp π.W st Mt:=amB.trans k46 fun q hq=> .inr (by simp at hq;omega);have aid:=hst.mono adg;have XX:∀s,aj .sub none true (I (((sm::fL).length+1:Nat):Int)) (.int .i64 1) s= .ok (I ((fL.length+1:Nat):Int)) s:=e3;obtain⟨LU,LA,V0⟩:=aid.hi (m:=fL.length+1) (by simp) Mt
       have OG:((sm::fL).reverse++[f]).take (fL.length+1)=fL.reverse++[sm]:=by
        rw[aBW (by simp)];simp
       rw[OG]at V0;simp only[hlen,af,XX,LA];refine fY amP ?_;simp only[aBb]at iE hm yR;refine(ih fL.length (by omega) fL rfl t46 ME (by omega) (by omega) V0 Vz (by omega)).mono ?_;rintro _ s47 ⟨rfl,k47,G',t47,ahW,qz⟩;exact⟨⟨trivial,trivial⟩,trivial,rfl,adg.trans k47 fun q hq=> .inl hq,G',t47,ahW,qz⟩
theorem Js {rest:List cO}{f:cO}{n:bg}{h:Nat}{x v:CV}{LL:List bA}(ht:Tg τ π st G)(hg:Ax G h f.page rest n LL)(hsz:n.size<=640)(iE:rest.length+2<=G.cJ)
 (hst:eP st π.W x (rest.reverse++[f])) (hv:IsNode st π.W v n) (yR:rest.length<=16):R 52 [.ptr τ 0,x,v] st (By τ π G LL st):=OP rest.length rest rfl ht hg hsz iE hst hv yR
end
