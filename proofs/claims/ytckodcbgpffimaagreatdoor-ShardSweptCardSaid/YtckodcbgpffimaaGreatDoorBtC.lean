import Derived.Test.YtckodcbgpffimaaGreatDoorBtB
namespace Lim
open Go
noncomputable section
set_option linter.defProp false
set_option maxRecDepth 100000
section
variable {τ:Nat} {π:PI} {Z Z':O} {G:GM}
def A0 {n:bp}(h:n.ok)(a:128<=n.size):n.cells≠[]:=by
 intro d
 .cases b:n.leaf with
  |true=>
   rw[cq,b,d]at a;have f:(uv ([]:δ dq).length).length=1:=eY V;have e:(cY true []).length=0:=rfl;simp only[ix]at a;omega
  |false=>
   have c:=h.kR;rw[b,B tW,d]at c;have h2:=rU h.Ek;rw[cq,b,d]at a;have f:(uv ([]:δ dq).length).length=1:=eY V;simp only[pi,ii]at a;simp only[IR]at c;rw[c]at h2;have e:(cY false []).length=0:=rfl;omega
structure Yo (τ:Nat)(π:PI)(Z:O)(G:GM)(h:Nat)(sm:dh)(rest:List dh)(LL:List aT)(x:K)(b53:Nat)(vs:List K)(s:O)(left:Nat)(first second:bp)(sep:bS)(pf pn:Nat)(aO:List Nat)(d:vQ)(b68 b69:Nat)(cf kf cs ks vcp vkp:K):Prop where
 vs:vs=[.ptr τ 0,x,.ptr b53 0,.ptr b68 0,.ptr b69 0,I left]
 kp:Kp [] Z s
 lt:b53<s.nx/\b68<s.nx/\b69<s.nx
 ge:Z.nx<=b53/\Z.nx<=b68/\Z.nx<=b69
 g53:s.m.g b53=some (.cells [I sm.page,I sm.at_,.bool false,vcp,vkp] 293 false)
 g68:s.m.g b68=some (.cells [.bool first.leaf,cf,kf] 251 false)
 g69:s.m.g b69=some (.cells [.bool second.leaf,cs,ks] 251 false)
 n1:IsNode s π.W (.agg [.bool first.leaf,cf,kf]) first
 n2:IsNode s π.W (.agg [.bool second.leaf,cs,ks]) second
 np:Sl s π.W vcp 4 (bL sm.n.cells)/\Sl s π.W vkp 1 (cR sm.n.kids)
 bes:xy G h sm rest left first second sep pf pn LL aO d
 nd:CH G aO
 size:first.size+second.size<=700
def Uc:∀(m:Nat) (o:δ dh),o.length=m->∀{Z:O} {G:GM} {f:dh} {n:bp} {h:Nat} {x v:K} {LL:δ aT},Tg τ π Z G->DC G h f.page o n LL->n.size<=640->o.length+2<=G.bT->
 gI Z π.W x (o.reverse++[f])->IsNode Z π.W v n->o.length<=16->Rq0 178 [.ptr τ 0,x,v] Z (EN τ π G LL (G.eu.length+(2*o.length+3)) (o.length+2) Z):=by
 intro m
 induction m using Nat.strongRecOn with
 |_ m ih=>
  intro o hm Z G f n h x v LL ht Q bn lR aa hv BJ;have sX:=ht.Vp;have xC:∀q,Z.nx<=q->q∉π.W:=λq hq hh=>aed
  have G8:=hv;obtain⟨vc,S,rfl,BZ,Tf⟩:=hv
  have qS:n.cells.length<=640:=by
   have:=fD n.leaf n.cells;rw[cq]at bn;omega
  refine bE ?_;rw[apR];rw[bz,aN];refine⟨rfl,?_⟩;have k1:Kp [] Z (O.new Z (Ϙ [.bool n.leaf,vc,S])):=(Δ [] Z).new _;have g1:(O.new Z (Ϙ [.bool n.leaf,vc,S])).m.g Z.nx=Φ (Ϙ [.bool n.leaf,vc,S]):=ay _ _;have n1:(O.new Z (Ϙ [.bool n.leaf,vc,S])).nx=Z.nx+1:=rfl;generalize O.new Z (Ϙ [.bool n.leaf,vc,S])=s1 at*;have iD:=aa.mono (k1.mono V);have Au:(o.reverse++[f]).length=o.length+1:=V
  have e3:=λs=>by
   have:=CX (o.length+1) J J s ν
   rwa [Pi]at this
  obtain⟨QT,QS,c1,c2,jV⟩:=iD.row (i:=o.length) V;have hf:(o.reverse++[f])[o.length]'(by simp)=f:=V
  rw[hf]at c1 c2 jV;have hlen:=λs=>aa.len s;rw[Au]at hlen;simp only[hlen,af,e3];refine jV _ ?_;refine qG c1.bM.2.1 c2.bM.2.1 ?_;have k3:Kp [] s1 (O.new s1 (ϝ [I f.page,I f.at_,.bool f.n.leaf,QT,QS])):=(Δ [] s1).new _;have g3:(O.new s1 (ϝ [I f.page,I f.at_,.bool f.n.leaf,QT,QS])).m.g s1.nx=Φ (ϝ [I f.page,I f.at_,.bool f.n.leaf,QT,QS]):=ay _ _;have n3:(O.new s1 (ϝ [I f.page,I f.at_,.bool f.n.leaf,QT,QS])).nx=s1.nx+1:=rfl;generalize O.new s1 (ϝ [I f.page,I f.at_,.bool f.n.leaf,QT,QS])=s3 at*;have lQ:=k1.trans k3 V;have mW:=(k3.keep Z.nx J V).trans g1;have fk:=iD.mono (k3.mono V);have t3:=ht.still lQ;have v3:=G8.mono (lQ.mono V);have e4:R .eql ψ true (ζ (o.length+1)) ϖ s3=.ok (.bool (decide (o.length=0))) s3:=CU
  have e5:∀s,R .neq ψ true μ μ s=.ok Θ s:=λs=>rfl;simp only[xl,e4];have br:∀s,Kp [] Z s->aY .slice vc s=.ok (I n.cells.length) s:=λs hs=>(BZ.mono (hs.mono V)).len n.cells.length (bN _) J s
  have TF:∀s,Kp [] Z s->n.cells≠[]->Rq0 213 [.ptr τ 0,x,.agg [.bool n.leaf,vc,S]] s λy s'=>EN τ π G LL (G.eu.length+(2*o.length+3)) (o.length+2) Z y s':=by
   intro s hs mh;refine(agJ (ht.still hs) Q mh bn lR (aa.mono (hs.mono V)) (G8.mono (hs.mono V)) BJ).mono ?_;rintro y s' ⟨rfl,k',G',t',cz,sW,Dp⟩;exact⟨rfl,(hs.mono V).trans k' lk,G',t',cz,sW,Dp⟩
  obtain⟨lo,hi,Ll,Lr,L,ps,q,Aw,my,lp,Z0⟩:=Q.ctx;cases o with
  |nil=>
   rw[gq (show decide (([]:δ dh).length=0)=θ from rfl)];obtain⟨_,rfl,rfl,rfl,rfl,rfl⟩:=(show f.page=G.root/\lo=[]/\hi=ν/\Ll=[]/\Lr=[]/\ps=[]from Aw);have ez:∀s,R .eql ψ true (I n.cells.length) μ s=.ok (.bool (decide (n.cells.length=0))) s:=λs=>CU
   simp only[fl,ly,mW,io];simp only[ow,zo]at Z0 lp;have hA:=lp
   replace lp:=lp.nd
   rw[me]at lp;cases il:n.leaf with
   |true=>
    rw[il]at mW TF;simp only[ix,gG,aW,vr,mW,kc,io,br s3 lQ,ez,bZ,ii,xk]
    by_cases h0:n.cells.length=0
    .rw[jp h0,gq rfl];refine t3.get' ?_;refine(vg t3.pg 0 (.inl rfl)).mono ?_;rintro _ s4 ⟨rfl,k4,p4⟩;have t4:=t3.of k4 p4;have Vn:=(k4.keep s1.nx J (xC _ J)).trans g3;simp only[e5,ll,ii,aZ,Vn,lW,io];obtain⟨ty,g,dr⟩:=t4.get;simp only[rr,dr,io];refine(FF t4.pg (n:=f.page) Q.bV).mono ?_;rintro _ s5 ⟨rfl,k5,p5⟩
     obtain⟨dz,rfl⟩:LL=[]/\q=[]:=by
      rw[<-Z0];obtain⟨_,c⟩:n.cells=[]/\True:=⟨sS.1 h0,gt⟩;have b7:=my.leaf;cases h with
      |zero=>
       obtain⟨_,_,bu,_⟩:=my;rw[sS.1 h0]at bu;exact bu
      |succ h=>rw[il]at b7;cases b7
     exact⟨⟨gt,gt,gt⟩,gt,rfl,(((lQ.mono V).trans k4 lk).trans k5 lk),_,t4.of k5 p5,⟨(qV (Q.ok.eS 0) Q.bV).ok,.inl ⟨rfl,dz,hA.to è (by have h1:=(qV (Q.ok.eS 0) Q.bV).free;have h2:(G.eS 0).bT=G.bT:=rfl;simp only[IR,lx];omega) rfl⟩⟩,rfl,rx (yF (G.eS 0) f.page) (by show G.eu.length+1<=_;omega),by have h1:=(qV (Q.ok.eS 0) Q.bV).free;have h2:(G.eS 0).bT=G.bT:=rfl;omega⟩
    .rw[jo h0,B tW];rw[aG (n:=3) mW rfl,af];exact TF s3 lQ λe=>h0 (by rw[e];rfl)
   |false=>
    rw[il]at mW TF;simp only[ix,gG,bA,vr,mW,kc,io,br s3 lQ,ez,GT,bZ,ii]
    by_cases h0:n.cells.length=0
    .rw[jp h0,gq rfl];have dv:=sS.1 h0;cases h with
     |zero=>have:=my.leaf;rw[il]at this;cases this
     |succ h=>
      obtain⟨_,Dm⟩:=my;have BS:=Dm.len;have dj:n.fF=[]:=by unfold bp.fF;rw[dv];rfl
      rw[dj]at Dm BS;obtain⟨kk,Hc⟩:∃kk,n.kids=[kk]:=List.length_eq_one_iff.1 (by simpa using BS);rw[Hc,ck.one]at Dm;obtain⟨_,vX⟩:=Dm;have dl:G.bV kk:=by obtain⟨nn,qq,Hb,_⟩:=vX;exact Hb.bV
      have aI:=Tf.mono (lQ.mono V);rw[Hc]at aI;obtain⟨ty,g,ds⟩:=t3.get;have bs:∀Kq0:K->Prop,Kq0 (I kk)->Lim.idx 1 S (ζ 0) s3 Kq0:=λKq0 hK=>aI.idx (i:=0) V Kq0 hK
      have ef:∃p,de 1 S μ s3=.ok p s3/\∀Kq0:K->Prop,Kq0 (I kk)->U (aw p s3) Kq0:=by
       obtain⟨b,p,l,t,g,q1,q2,q3,q4,q5⟩:=(show Sl s3 π.W S 1 ([[I kk]]:δ (δ K)).flatten from aI).cellAt J V (i:=0) V;refine⟨_,q1 s3,λKq0 hK=>?_⟩;have:=q5 0 (I kk) rfl;rw[rc]at this;rw[av,q2,ak,this];exact hK
      obtain⟨p,dk,PJ⟩:=ef;simp only[aZ,rr,ds,io,dk];refine PJ _ ?_;refine(vg t3.pg kk (.inr dl)).mono ?_;rintro _ s6 ⟨rfl,k6,p6⟩;have t6:=t3.of k6 p6;have dG:=(k6.keep s1.nx J (xC _ J)).trans g3;obtain⟨fj,f6,dq⟩:=t6.get;simp only[e5,ll,ii,dq,dG,lW,io,sE];refine(FF t6.pg (n:=f.page) Q.bV).mono ?_;rintro _ s7 ⟨rfl,k7,p7⟩;have hD:=qV (Q.ok.eS kk) Q.bV;refine⟨rfl,(((lQ.mono V).trans k6 lk).trans k7 lk),_,t6.of k7 p7,⟨hD.ok,.inr ⟨h,q,hA.to lp.2 (by have h1:=hD.free;have h2:(G.eS kk).bT=G.bT:=rfl;simp only[lx];omega) rfl,?_⟩⟩,rfl,rx (yF (G.eS kk) f.page) (by show G.eu.length+1<=_;omega),by have h1:=hD.free;have h2:(G.eS kk).bT=G.bT:=rfl;omega⟩;rw[<-Z0];exact(show Sub G h kk [] ν L q from vX).kept λz hz=>⟨λhu=>(hD.bV z).2 ⟨hu,λe=>lp.1 (e▸hz)⟩,rfl⟩
    .rw[jo h0,B tW];rw[aG (n:=3) mW rfl,af];exact TF s3 lQ λe=>h0 (by rw[e];rfl)
  |cons sm M=>
   rw[B (show¬decide ((sm::M).length=0)=θ by simp)];refine ij mW ?_;refine(Fh t3.fr (v3.fc V) Q.Qr J).mono ?_;rintro _ T ⟨rfl,k9⟩;have az:=lQ.trans k9 V;have n9:=k9.nx;have Ki:=(k9.keep Z.nx J V).trans mW;have e6:R .geq ν true (I n.size) (I 128) T=.ok (.bool (decide (128<=n.size))) T:=by rw[au,rM];congr 2;simp only[CI];omega
   rw[e6,af,ag]
   by_cases aQ:128<=n.size
   .rw[jp aQ,gq rfl];refine ij Ki ?_;exact TF T az (A0 Q.Qr aQ)
   .rw[jo aQ,B tW];have ZP:=Aw;obtain⟨_,_,_,_,_,_,_,_,_,_,PG,cc,eg,_⟩:=Aw
    have gd:sm.n.cells.length<=512:=by
     have:=fD sm.n.leaf sm.n.cells;have:=PG.size;rw[cq]at this;omega
    have fa:=PG.ok.kR;rw[cc,B tW]at fa;obtain⟨Mq,_⟩:=qo.1 eg
    have nL:2<=sm.n.kids.length:=by
     have:=TK.2 PG.full;omega
    have cW:=aa.mono (az.mono V)
    have e7:R .sub ν true (ζ ((sm::M).length+1)) (I 2) T=.ok (I M.length) T:=by
     rw[au,dY,lx,bt (by simp at BJ;omega)];congr 2;omega
    obtain⟨D,F,d1,d2,IS⟩:=cW.row (i:=M.length) V;have Tk:((sm::M).reverse++[f])[M.length]'(by simp)=sm:=V
    rw[Tk,cc]at IS;rw[Tk]at d1 d2;rw[e7,af];refine IS _ ?_;refine qG d1.bM.2.1 d2.bM.2.1 ?_;have oR:Kp [] T (O.new T (ϝ [I sm.page,I sm.at_,Θ,D,F])):=(Δ [] T).new _;have lV:(O.new T (ϝ [I sm.page,I sm.at_,Θ,D,F])).m.g T.nx=Φ (ϝ [I sm.page,I sm.at_,Θ,D,F]):=ay _ _;have Nl:(O.new T (ϝ [I sm.page,I sm.at_,Θ,D,F])).nx=T.nx+1:=rfl;generalize O.new T (ϝ [I sm.page,I sm.at_,Θ,D,F])=cH at*;have zq:=az.trans oR V;have dT:=(oR.keep Z.nx J V).trans Ki;have an:=d2.mono (oR.mono V);have bF:=d1.mono (oR.mono V);have eQ:=an.len sm.n.kids.length V J cH;simp only[fl,ly,lV,Nat.reduceAdd,kc,io,fV sm.at_ J];refine iO (λvs s=>cH=s/\∃r:Nat,vs=[.ptr τ 0,x,.ptr Z.nx 0,.ptr T.nx 0,I sm.at_,I r]/\((r=sm.at_+1/\sm.at_+1<sm.n.kids.length)\/(sm.at_=r+1/\sm.at_+1=sm.n.kids.length))) ?_ ?_
    .intro k' wB;have e8:R .eql ψ false (ζ (sm.at_+1)) (I sm.n.kids.length) cH=.ok (.bool (decide (sm.at_+1=sm.n.kids.length))) cH:=by rw[au,cn];congr 2;simp only[CI];omega
     simp only[eQ,xl,e8]
     by_cases IZ:sm.at_+1=sm.n.kids.length
     .rw[jp IZ,gq rfl,CX sm.at_ J J,af];exact wB _ _ ⟨rfl,sm.at_-1,rfl,.inr ⟨J,IZ⟩⟩
     .rw[jo IZ,B tW];exact wB _ _ ⟨rfl,sm.at_+1,rfl,.inl ⟨rfl,J⟩⟩
    .rintro _ _ ⟨rfl,r,rfl,NW⟩
     have hB:∃(other:bp) (po left:Nat) (first j:bp) (k:bS) (pf pn:Nat) (d:vQ),pk G po other/\sm.n.kids[r]?=Φ po/\xy G h sm M left first j k pf pn (Ll++(L++Lr)) (f.page::(q++ps)) d/\
      ((r=sm.at_+1/\left=sm.at_/\first=n/\j=other)\/(sm.at_=r+1/\left=r/\first=other/\j=n)):=by
      rcases NW with⟨e,bq⟩|⟨e,bq⟩
      .obtain⟨other,pn,k,d,x1,x2⟩:=OW ZP Q.bV Q.Qr my bq;exact⟨other,pn,_,_,_,k,_,pn,d,x1,by rw[e];exact x2.WM,x2,.inl ⟨e,rfl,rfl,rfl⟩⟩
      .obtain⟨other,pf,k,d,x1,x2⟩:=Rq ZP Q.bV Q.Qr my e;exact⟨other,pf,_,_,_,k,pf,_,d,x1,x2.Sw,x2,.inr ⟨e,rfl,rfl,rfl⟩⟩
     obtain⟨other,po,left,first,j,k,pf,pn,d,rm,dm,a6,eT⟩:=hB;rw[Z0]at a6;obtain⟨vu,dy⟩:=qo.1 dm;simp only[ke,ly,lV,Nat.reduceAdd,kc,io];refine an.idx (i:=r) (by simpa using vu) _ ?_;have e9:(cR sm.n.kids)[r]'(by simpa using vu)=I po:=by simp[cR,dy]
     rw[e9];refine(AV (ht.still zq) rm).mono ?_;rintro _ ew ⟨xo,rfl,rk,bj⟩;have YH:=rk.nx;have ZW:∀b∈π.W,b<cH.nx:=λb hb=>by have:=sX b hb;have:=zq.nx;omega
     obtain⟨Ho,Hn,rfl,o1,o2⟩:=bj π.W ZW;simp only[u6];refine vi o1.bM.2.1 o2.bM.2.1 ?_;have tP:Kp [] ew (O.new ew (Ϙ [.bool other.leaf,Ho,Hn])):=(Δ [] ew).new _;have Jj:(O.new ew (Ϙ [.bool other.leaf,Ho,Hn])).m.g ew.nx=Φ (Ϙ [.bool other.leaf,Ho,Hn]):=ay _ _;have fX:(O.new ew (Ϙ [.bool other.leaf,Ho,Hn])).nx=ew.nx+1:=rfl;generalize O.new ew (Ϙ [.bool other.leaf,Ho,Hn])=w at*;have tC:=rk.trans tP V;have bG:=(tC.keep Z.nx (by have:=zq.nx;omega) V).trans dT;have cm:=(tC.keep T.nx J V).trans lV;rw[e5,af,ag,B tW,aZ];have yy:(O.new w ϐb).nx=w.nx+1:=rfl;have kA:Kp [] w (O.new (O.new w ϐb) ϐb):=((Δ [] w).new _).new _;have am:(O.new (O.new w ϐb) ϐb).m.g w.nx=Φ ϐb:=(bo _ _ _ V).trans (ay _ _);have al:(O.new (O.new w ϐb) ϐb).m.g (w.nx+1)=Φ ϐb:=ay (O.new w ϐb) _;have nA:(O.new (O.new w ϐb) ϐb).nx=w.nx+2:=rfl;rw[yy];generalize O.new (O.new w ϐb) ϐb=sA at*;have b8:=zq.trans tC V;have f9:=b8.nx;have Mb:∀(y:δ K) a b c,y.length=3->bC y 0 [a,b,c]=[a,b,c]:=λy a b c hy=>db _ _ (by simp[hy]);have dL:=(kA.keep Z.nx J V).trans bG;have bP:=(kA.keep ew.nx J V).trans Jj;have gg:=(kA.keep T.nx aff V).trans cm
     obtain⟨q1,q2,q3⟩:=BZ.bM;obtain⟨q4,q5,q6⟩:=Tf.bM;obtain⟨q7,q8,q9⟩:=o1.bM;obtain⟨ft,bf,fs⟩:=o2.bM;rw[aG (n:=3) dL rfl,af,aG (n:=3) bP rfl,af,jZ am,aP,jZ al,aP,aK,am,aU,aN,Mb _ _ _ _ rfl];refine⟨⟨rfl,by simp[q2,q5],V⟩,?_⟩;rw[aK,ar _ _ _ _ J,al,aU,aN,Mb _ _ _ _ rfl];refine⟨⟨rfl,by simp[q8,bf],V⟩,?_⟩;have d6:(O.set sA w.nx (Ϙ [.bool n.leaf,vc,S])).m.g ew.nx=_:=(ar _ _ _ _ J).trans bP;rw[aG (n:=3) d6 rfl,af];refine⟨⟨gt,⟨rfl,gt⟩,gt,gt,gt⟩,gt,?_⟩;have kC:Kp [] w (O.set (O.set sA w.nx (Ϙ [.bool n.leaf,vc,S])) (w.nx+1) (Ϙ [.bool other.leaf,Ho,Hn])):=(kA.set _ (.inr (hI _)) J).set _ (.inr J) xI;have bw:(O.set (O.set sA w.nx (Ϙ [.bool n.leaf,vc,S])) (w.nx+1) (Ϙ [.bool other.leaf,Ho,Hn])).m.g w.nx=Φ (Ϙ [.bool n.leaf,vc,S]):=(ar _ _ _ _ J).trans (ao ..);have bv:(O.set (O.set sA w.nx (Ϙ [.bool n.leaf,vc,S])) (w.nx+1) (Ϙ [.bool other.leaf,Ho,Hn])).m.g (w.nx+1)=Φ (Ϙ [.bool other.leaf,Ho,Hn]):=ao ..;have nC:(O.set (O.set sA w.nx (Ϙ [.bool n.leaf,vc,S])) (w.nx+1) (Ϙ [.bool other.leaf,Ho,Hn])).nx=w.nx+2:=nA;generalize O.set (O.set sA w.nx (Ϙ [.bool n.leaf,vc,S])) (w.nx+1) (Ϙ [.bool other.leaf,Ho,Hn])=jd at*;have Te:=b8.trans kC V;have BA:=tC.trans kC V;have bH:=(kC.keep Z.nx J V).trans bG;have eI:=(kC.keep ew.nx J V).trans Jj;have co:=(kC.keep T.nx aff V).trans cm;have em:=G8.mono (Te.mono V);have en:IsNode jd π.W (.agg [.bool other.leaf,Ho,Hn]) other:=⟨Ho,Hn,rfl,(o1.mono (tP.mono V)).mono (kC.mono V),(o2.mono (tP.mono V)).mono (kC.mono V)⟩
     have f4:=rm.size;refine iO (λvs s=>∃aF aD cf kf cs ks,Yo τ π Z G h sm M LL x T.nx vs s left first j k pf pn (f.page::(q++ps)) d aF aD cf kf cs ks D F) ?_ ?_
     .intro f3 b9;rw[dd,af,ag];rcases eT with⟨x1,rfl,rfl,rfl⟩|⟨x1,rfl,rfl,rfl⟩
      .rw[jo J,B tW];exact b9 _ _ ⟨_,_,vc,S,Ho,Hn,rfl,Te,⟨J,J,J⟩,⟨J,J,J⟩,co,bw,bv,em,en,⟨bF.mono (BA.mono V),an.mono (BA.mono V)⟩,a6,lp,J⟩
      .rw[jp J,gq rfl,aZ,aG (n:=3) eI rfl,af,aG (n:=3) bH rfl,af,aK,bw,aU,aN,Mb _ _ _ _ rfl];refine⟨⟨rfl,by simp[q8,bf],V⟩,?_⟩;rw[aK,ar _ _ _ _ J,bv,aU,aN,Mb _ _ _ _ rfl];refine⟨⟨rfl,by simp[q2,q5],V⟩,?_⟩;have dI:(O.set jd w.nx (Ϙ [.bool first.leaf,Ho,Hn])).m.g Z.nx=_:=(ar _ _ _ _ J).trans bH;rw[aG (n:=3) dI rfl,af];refine⟨⟨gt,⟨rfl,gt⟩,gt⟩,gt,?_⟩;have kE:Kp [w.nx,w.nx+1] jd (O.set (O.set jd w.nx (Ϙ [.bool first.leaf,Ho,Hn])) (w.nx+1) (Ϙ [.bool j.leaf,vc,S])):=((Δ _ jd).set (p:=w.nx) _ (.inl V) J).set (p:=w.nx+1) _ (.inl V) xI;have df:=(G8.fc (Y:=π.W++[w.nx,w.nx+1]) (by intro b hb;simp at hb;rcases hb with h|h|h;exact .inl h;right;omega;right;omega)).mono (Te.mono V);have c6:=(((bj (π.W++[]) (by simpa using ZW)).fc (Y:=π.W++[w.nx,w.nx+1]) (by intro b hb;simp at hb⊢;rcases hb with h|h|h;exact .inl h;right;omega;right;omega)).mono (tP.mono V)).mono (kC.mono V);have XD:∀b∈[w.nx,w.nx+1],b∈π.W++[w.nx,w.nx+1]\/jd.nx<=b:=λb hb=>.inl (by simp at hb⊢;rcases hb with h|h<;>simp[h]);refine b9 _ _ ⟨w.nx,w.nx+1,Ho,Hn,vc,S,rfl,(Te.mono V).trans kE (by intro b hb;simp at hb;right;omega),⟨xI,xI,xI⟩,⟨J,J,J⟩,(ar _ _ _ _ aff).trans ((ar _ _ _ _ aff).trans co),(ar _ _ _ _ J).trans (ao ..),ao ..,(c6.mono (kE.mono XD)).fc (by intro b hb;simp[hb]),(df.mono (kE.mono XD)).fc (by intro b hb;simp[hb]),⟨?_,?_⟩,a6,lp,J⟩
       .have:=((bF.fc (Y:=π.W++[w.nx,w.nx+1]) (by intro b hb;simp at hb;rcases hb with h|h|h;exact .inl h;right;have:=tC.nx;omega;right;have:=tC.nx;omega)).mono (BA.mono V)).mono (kE.mono XD);exact this.fc (by intro b hb;simp[hb])
       .have:=((an.fc (Y:=π.W++[w.nx,w.nx+1]) (by intro b hb;simp at hb;rcases hb with h|h|h;exact .inl h;right;have:=tC.nx;omega;right;have:=tC.nx;omega)).mono (BA.mono V)).mono (kE.mono XD);exact this.fc (by intro b hb;simp[hb])
     .rintro vs u ⟨aF,aD,cf,kf,cs,ks,⟨rfl,ap,⟨f1,f0,fY⟩,⟨w53,agG,fi⟩,g53,g68,g69,N1,N2,⟨p1,p2⟩,Bq0,-,ep⟩⟩;have f8:=Bq0;obtain⟨eW,IY,Ac,cL,dw,dx⟩:=xq Bq0;have ge:=ap.nx;simp only[ke]
      have Ml:∀Kq0:K->Prop,Kq0 (.agg [Θ,D,F])->QC 3 2 (.ptr T.nx 0) u Kq0:=λKq0 hK=>by
       unfold QC;rw[ah,af,im (n:=3) g53 V,af];exact hK
      refine Ml _ ?_;refine vi p1.bM.2.1 p2.bM.2.1 ?_;have bh:Kp [] u (O.new u (Ϙ [Θ,D,F])):=(Δ [] u).new _;have aC:(O.new u (Ϙ [Θ,D,F])).m.g u.nx=Φ (Ϙ [Θ,D,F]):=ay _ _;have fW:(O.new u (Ϙ [Θ,D,F])).nx=u.nx+1:=rfl;generalize O.new u (Ϙ [Θ,D,F])=ug at*;rw[aZ,ah,af,av,aC,ak];simp only[Gm,kc,io];refine(yK ((p1.fc (Y:=[]) V).mono (bh.mono V)) (fv _) ó).mono ?_;rintro X iV ⟨F1,Dg,o1,P7,_⟩;have fT:=Dg.nx;have yV:=(Dg.keep u.nx J V).trans aC;rw[ah,af,av,yV,ak];simp only[Gm,kc,io];have YV:=bh.trans Dg V;refine(Cm ((p2.fc (Y:=[]) V).mono (YV.mono V)) (kM _) (by rw[rT];omega)).mono ?_;rintro P kq ⟨F2,ad,o2,dM,_⟩;have fS:=ad.nx;have NZ:=(ad.keep u.nx J V).trans yV;have eY:=YV.trans ad V;obtain⟨c9,Ws⟩:=o1.cI;obtain⟨c8,c7⟩:=o2.cI;rw[ah,af,aK,NZ,aU,Ws];refine⟨⟨rfl,by simp[c9],V⟩,?_⟩;rw[ah,af,aK,ao,aU,c7];refine⟨⟨rfl,by simp[c8],afO⟩,?_⟩;rw[av,aC,ak];refine⟨⟨gt,⟨rfl,gt⟩,gt⟩,gt,?_⟩;have YU:Kp [] u (O.set (O.set kq u.nx (Ϙ (bC [Θ,D,F] (0+1) [X]))) u.nx (Ϙ (bC (bC [Θ,D,F] (0+1) [X]) (0+2) [P]))):=(eY.set _ (.inr (hI _)) J).set _ (.inr (hI _)) xI;have dH:(O.set (O.set kq u.nx (Ϙ (bC [Θ,D,F] (0+1) [X]))) u.nx (Ϙ (bC (bC [Θ,D,F] (0+1) [X]) (0+2) [P]))).m.g u.nx=Φ (Ϙ [Θ,X,P]):=ao ..;have fQ:(O.set (O.set kq u.nx (Ϙ (bC [Θ,D,F] (0+1) [X]))) u.nx (Ϙ (bC (bC [Θ,D,F] (0+1) [X]) (0+2) [P]))).nx=kq.nx:=rfl;have wx:∀b∈F1,u.nx<b/\b<iV.nx:=λb hb=>afP
      have vo:=dM;have ch:Own (O.set (O.set kq u.nx (Ϙ (bC [Θ,D,F] (0+1) [X]))) u.nx (Ϙ (bC (bC [Θ,D,F] (0+1) [X]) (0+2) [P]))) X 4 255 (bL sm.n.cells) F1:=(o1.keep ad λb hb=>⟨(wx b hb).2,V⟩).mono λb hb=>by have:=wx b hb;rw[ar _ _ _ _ J,ar _ _ _ _ J]
      have ey:Own (O.set (O.set kq u.nx (Ϙ (bC [Θ,D,F] (0+1) [X]))) u.nx (Ϙ (bC (bC [Θ,D,F] (0+1) [X]) (0+2) [P]))) P 1 3 (cR sm.n.kids) F2:=o2.mono λb hb=>by have:=vo b hb;rw[ar _ _ _ _ J,ar _ _ _ _ J]
      generalize O.set (O.set kq u.nx (Ϙ (bC [Θ,D,F] (0+1) [X]))) u.nx (Ϙ (bC (bC [Θ,D,F] (0+1) [X]) (0+2) [P]))=N at*;have SA:Kp [] N (O.new N ϐb):=(Δ [] N).new _;have bI:(O.new N ϐb).m.g N.nx=Φ ϐb:=ay _ _;have fP:(O.new N ϐb).nx=N.nx+1:=rfl;rw[aZ];generalize O.new N ϐb=AE at*;have El:=YU.trans SA V;have XM:=(SA.keep u.nx J V).trans dH;have eL:=(El.keep aF J V).trans g68;have eM:=(El.keep aD J V).trans g69;have eX:Sl AE [] X 4 (sm.n.cells.map ba).flatten:=(ch.keep SA λb hb=>⟨Hq,V⟩).sl λb hb=>⟨V,Hq⟩;have e1:left<(sm.n.cells.map ba).length:=by simpa using IY
      obtain⟨cb,cp,cl,ct,cg,c0,cY,fq,fp,cX⟩:=eX.cellAt J (gH _) (i:=left) e1
      have ea:sm.n.cells[left]=cL:=by
       obtain⟨_,h⟩:=qo.1 dw;exact h
      have Dn:cl[cp]?=Φ (.str k):=by
       have:=cX 0 (.str k) (by simp[ea,ba,dx])
       rwa [rc]at this
      refine ij eL ?_;simp only[ly,XM,kc,io,c0,cY,rc,Dn];refine ij eM ?_;have CP:first.cells.length<=700:=by have:=fD first.leaf first.cells;have:=ep;rw[cq]at this;omega
      have AJ:j.cells.length<=700:=by
       have:=fD j.leaf j.cells;have h3:=cq j;omega
      have d8:first.kids.length<=1001:=by rw[Bq0.ok1.kR];split<;>omega
      have d9:j.kids.length<=1001:=by rw[Bq0.ok2.kR];split<;>omega
      have dP:=El.fresh (ap.fresh ht.fr);obtain⟨J1,J2,J3⟩:=Bq0.c1.join Bq0.c2 Bq0.ok1 Bq0.ok2 eW;refine(Yj dP ((N1.fc V).mono El) ((N2.fc V).mono El) J J d8 d9).mono ?_;rintro xw AD ⟨Py,bi⟩;have fN:=Py.nx;have eb:=ap.trans El V;have gj:=eb.nx;obtain⟨cw,kw,rfl,w1,w2⟩:=bi (π.W++[]) (by intro b hb;simp at hb;have:=sX b hb;omega);have cj:=(Py.keep N.nx J V).trans bI;have eh:=(Py.keep u.nx J V).trans XM;rw[jZ cj,aP,aK,cj,aU,aN,Mb _ _ _ _ rfl];refine⟨⟨rfl,by simp[w1.bM.2.1,w2.bM.2.1],V⟩,?_⟩;rw[jZ bI,aP];refine⟨⟨gt,gt,gt,gt,⟨rfl,gt⟩,gt⟩,gt,?_⟩;have SB:Kp [] N (O.set AD N.nx (Ϙ [.bool (dK first k j).leaf,cw,kw])):=(SA.trans Py V).set _ (.inr (hI _)) J;have bD:(O.set AD N.nx (Ϙ [.bool (dK first k j).leaf,cw,kw])).m.g N.nx=Φ (Ϙ [.bool (dK first k j).leaf,cw,kw]):=ao ..;have d0:(O.set AD N.nx (Ϙ [.bool (dK first k j).leaf,cw,kw])).m.g u.nx=Φ (Ϙ [Θ,X,P]):=(ar _ _ _ _ J).trans eh;have fM:(O.set AD N.nx (Ϙ [.bool (dK first k j).leaf,cw,kw])).nx=AD.nx:=rfl
      have cd:IsNode (O.set AD N.nx (Ϙ [.bool (dK first k j).leaf,cw,kw])) (π.W++[N.nx]) (.agg [.bool (dK first k j).leaf,cw,kw]) (dK first k j):=by
       obtain⟨f7,f2,e,w3,w4⟩:=bi (π.W++[N.nx]) (by intro b hb;simp at hb;rcases hb with h|h;have:=sX b h;omega;omega);simp only[K.agg.injEq,IP,and_true,sE]at e;obtain⟨rfl,rfl⟩:=e;have kk:Kp [N.nx] AD (O.set AD N.nx (Ϙ [.bool (dK first k j).leaf,cw,kw])):=(Δ _ AD).set _ (.inl V) J;exact⟨cw,kw,rfl,w3.mono (kk.mono (by intro b hb;left;simp at hb⊢;exact .inr hb)),w4.mono (kk.mono (by intro b hb;left;simp at hb⊢;exact .inr hb))⟩
      generalize O.set AD N.nx (Ϙ [.bool (dK first k j).leaf,cw,kw])=fo at*;have e0:=YU.trans SB V;have b3:=ap.trans e0 V;have eo:=ch.keep SB λb hb=>⟨Hq,V⟩;have eC:=ey.keep SB λb hb=>⟨Hk,V⟩;refine ij bD ?_
      have dn:(dK first k j).cells.length<=1000:=by
       have:=fD (dK first k j).leaf (dK first k j).cells;have h3:=cq (dK first k j);omega
      have dQ:=b3.fresh ht.fr;refine(Fh dQ (cd.fc V) J2 dn).mono ?_;rintro _ GY ⟨rfl,WX⟩;have fL:=WX.nx;have Je:=b3.trans WX V;have bx:=(WX.keep N.nx J V).trans bD;have aM:=(WX.keep u.nx J V).trans d0;have ci:=eo.keep WX λb hb=>⟨Hq,V⟩;have a7:=eC.keep WX λb hb=>⟨Hk,V⟩;have ce:=cd.mono (WX.mono V);have cT:=ht.still Je;have gh:=aa.mono (Je.mono V);have dN:R .leq ν true (I (dK first k j).size) (I 512) GY=.ok (.bool (decide ((dK first k j).size<=512))) GY:=Hl
      rw[dN,af,ag]
      have zp:∀(i:Nat) (p:Nat),sm.n.kids[i]?=Φ p->∀s,Kp π.W GY s->∃a,de 1 P (I i) s=.ok a s/\∀Kq0:K->Prop,Kq0 (I p)->U (aw a s) Kq0:=by
       intro i p hi s hs;obtain⟨Hd,dp⟩:=qo.1 hi
       have lP:Sl s π.W P 1 ((cR sm.n.kids).map λx=>[x]).flatten:=by
        have h2:=a7.sl λb hb=>⟨xC b Hk,Hk⟩;have e:((cR sm.n.kids).map λx=>[x]).flatten=cR sm.n.kids:=by simp[<-List.flatMap_def]
        rw[e];exact h2.mono hs
       obtain⟨b,p',l,t,g,a1,a2,a3,a4,a5⟩:=lP.cellAt J V (i:=i) (by simpa using Hd);refine⟨_,a1 s,λKq0 hK=>?_⟩;have:=a5 0 (I p) (by simp[cR,dp]);rw[rc]at this;rw[av,a2,ak,this];exact hK
      by_cases GA:(dK first k j).size<=512
      .rw[jp GA,gq rfl,aZ];obtain⟨dC,e2,gb,ga⟩:=JI Bq0 Q.ok lp GA;have fJ:∀b,Z.nx<=b->b∉π.all/\b≠τ:=λb hb=>⟨λhh=>by have:=ht.pg.lt b hh;omega,λe=>afg⟩;obtain⟨c4,Tx,aS⟩:=zp left pf Bq0.Sw GY (Δ _ _);simp only[rb,aM,kc,io,Tx];refine aS _ ?_;refine ij bx ?_;refine(pP cT Bq0.u1 (ce.fc V) J2 GA).mono ?_;rintro _ HL ⟨rfl,YS,aq⟩;have fI:=YS.nx;have eP:=Je.nx;have bQ:=(YS.keep u.nx J (xC _ J)).trans aM;obtain⟨c3,Hi,a0⟩:=zp (left+1) pn Bq0.WM HL YS;obtain⟨gi,gf,ei⟩:=aq.get;rw[e5,af,ag,B tW,aZ,bk,af];simp only[ei,kc,io,bQ,fV left J,ly,Hi];refine⟨⟨gt,gt,gt,gt⟩,gt,?_⟩;refine a0 _ ?_;refine(FF aq.pg dC).mono ?_;rintro _ RC ⟨rfl,aj,c5⟩;have fH:=aj.nx;have cS:=aq.of aj c5;have Sz:=YS.trans aj lk;have bX:=(aj.keep u.nx J (xC _ J)).trans bQ;have ev:=ci.keep Sz λb hb=>⟨Hq,xC b Hq⟩;have eD:=a7.keep Sz λb hb=>⟨Hk,xC b Hk⟩;refine⟨⟨gt,gt,gt,gt⟩,gt,?_⟩;have eN:∀s,R .add ν true (I left) (I 2) s=.ok (ζ (left+1+1)) s:=λs=>by rw[au,cE,bt J];rfl
       rw[e5,af,ag,B tW,aZ];simp only[lW,kc,io,bX];refine(Ju (n:=sm.n.cells.length) ev (bN _) J (λb hb=>Hq) (fv _) IY).mono ?_;rintro uU Yy ⟨dc,ax,fG⟩;have bY:=(ax.keep u.nx J (λhh=>aei)).trans bX;have eF:=eD.keep ax λb hb=>⟨Hk,λhh=>by have:=wx b hh;have:=vo b hb;omega⟩;simp only[kc,io,bY,eN,rb];refine(Qb (n:=sm.n.kids.length) (i:=left+1) eF V J (λb hb=>Hk) (kM _) J).mono ?_;rintro xG RA ⟨da,Qs,fC⟩;have d3:=(Qs.keep u.nx J (λhh=>by have:=vo _ hh;omega)).trans bY
       have Rp:=(dc (π.W++(u.nx::F2)) (λb hb hh=>by
        have:=wx b hb;simp at hh;rcases hh with hh|hh|hh
        .exact xC b J hh
        .omega
        .have:=vo b hh;omega)).mono (Qs.mono (by intro q hq;left;simp[hq]))
       have Ro:Sl RA (π.W++[u.nx]) xG 1 ((cR sm.n.kids).take ((left+1)*1)++(cR sm.n.kids).drop ((left+1+1)*1)):=da _ λb hb hh=>by
        have:=vo b hb;simp at hh;rcases hh with hh|hh
        .exact xC b J hh
        .omega
       have ec:(bL sm.n.cells).take (left*4)++(bL sm.n.cells).drop ((left+1)*4)=bL (vW sm.n left).cells:=by
        rw[ml _ _ J,mm _ _ J,<-iY];rfl
       have ek:(cR sm.n.kids).take ((left+1)*1)++(cR sm.n.kids).drop ((left+1+1)*1)=cR (vW sm.n left).kids:=by
        rw[Fi,Fi,wW,wX,<-pF];rfl
       rw[ec]at Rp;rw[ek]at Ro;obtain⟨z1,z2,z3⟩:=Rp.bM;obtain⟨z4,z5,z6⟩:=Ro.bM;have xj:bC [Θ,X,P] 1 [uU]=[Θ,uU,P]:=rfl;have nv:bC [Θ,uU,P] 2 [xG]=[Θ,uU,xG]:=rfl;rw[aK,d3,aU,z3,xj];refine⟨⟨rfl,by simp[z2],V⟩,?_⟩;rw[aK,ao,aU,z6,nv];refine⟨⟨rfl,by simp[z5],V⟩,⟨gt,⟨gt,gt⟩,gt⟩,gt,?_⟩;have Sx:Kp [u.nx] RA (O.set (O.set RA u.nx (Ϙ [Θ,uU,P])) u.nx (Ϙ [Θ,uU,xG])):=((Δ _ RA).set _ (.inl V) J).set _ (.inl V) xI;have d4:(O.set (O.set RA u.nx (Ϙ [Θ,uU,P])) u.nx (Ϙ [Θ,uU,xG])).m.g u.nx=Φ (Ϙ [.bool (vW sm.n left).leaf,uU,xG]):=ao ..;have fz:(O.set (O.set RA u.nx (Ϙ [Θ,uU,P])) u.nx (Ϙ [Θ,uU,xG])).nx=RA.nx:=rfl;generalize O.set (O.set RA u.nx (Ϙ [Θ,uU,P])) u.nx (Ϙ [Θ,uU,xG])=VZ at*
       have ff:IsNode VZ π.W (.agg [.bool (vW sm.n left).leaf,uU,xG]) (vW sm.n left):=
        ⟨uU,xG,rfl,(Rp.mono (Sx.mono (by intro q hq;left;simp at hq;simp[hq]))).fc (by intro q hq;left;simp[hq]),(Ro.mono (Sx.mono (by intro q hq;left;simp at hq;simp[hq]))).fc (by intro q hq;left;simp[hq])⟩
       have YR:Kp (F1++(F2++[u.nx])) RC VZ:=((ax.mono (by intro q hq;left;simp[hq])).trans Qs (by intro q hq;left;simp[hq])).trans Sx (by intro q hq;left;simp at hq;simp[hq])
       have tE:∀q∈F1++(F2++[u.nx]),Z.nx<=q:=by
        intro q hq;simp at hq;rcases hq with hq|hq|hq
        .have:=wx q hq;omega
        .have:=vo q hq;omega
        .omega
       have cQ:=cS.yu YR λb hb=>fJ b (tE b hb);have ed:=(Je.mono V).trans Sz lk;have b4:=ed.trans YR λq hq=>.inr (tE q hq);have eq:=aa.mono b4;have aH:∀s,R .sub ν true (ζ ((sm::M).length+1)) ϖ s=.ok (ζ (M.length+1)) s:=e3;obtain⟨fh,U8,Qt⟩:=eq.hi (m:=M.length+1) V VZ
       have TU:((sm::M).reverse++[f]).take (M.length+1)=M.reverse++[sm]:=by
        rw[SM V];simp
       rw[TU]at Qt;rw[aZ,hlen,af,aH,af,U8,af];refine ij d4 ?_;simp only[lx]at lR hm BJ;refine(ih M.length J M rfl cQ e2 J J Qt ff J).mono ?_;rintro _ fn ⟨rfl,di,G',cP,es,sW,Dp,du⟩;exact⟨⟨gt,gt⟩,gt,rfl,b4.trans di lk,G',cP,es,sW,by have:=yF (G.put pf (.node (dK first k j))) pn;have:=vd G pf (.node (dK first k j));simp only[lx];omega,afE⟩
      .rw[jo GA,B tW];have fJ:∀b,Z.nx<=b->b∉π.all/\b≠τ:=λb hb=>⟨λhh=>by have:=ht.pg.lt b hh;omega,λe=>afg⟩;obtain⟨i,I7,H⟩:=Uk J2 J J
       have Tj:cF (dK first k j)<(dK first k j).cells.length:=by
        have:=H.lt;unfold cF;cases il:(dK first k j).leaf with
        |false=>simp;omega
        |true=>
         rw[gq rfl];have hA:=H.neA;rcases H.eqs with⟨_,e,_⟩|⟨h,_⟩
         .rw[e]at hA
          have:0<i:=by
           rcases Nat.eq_zero_or_pos i with h0|h0
           .exact absurd (by show(dK first k j).cells.take i=[];rw[h0,S6]) hA
           .exact h0
          omega
         .rw[il]at h;cases h
       obtain⟨RM,fe,be,fd⟩:=GJ Bq0 Q.ok lp H;have Dh:(zC (dK first k j)).2.1.length<=48:=by rw[H.key];exact(J2.cell _ (mp ..)).key
       refine ij bx ?_;have dS:=Je.fresh ht.fr;have eP:=Je.nx;refine(UW dS (ce.fc V) J2 J Tj).mono ?_;rintro _ C ⟨xa,xb,rfl,bg,bm,bl⟩;generalize gc:zC (dK first k j)=cu at*;obtain⟨a,sp,b⟩:=cu;simp only at H bm bl RM fe be fd Dh;have fy:=bg.nx;have ZV:∀q∈π.W,q<GY.nx:=λq hq=>by have:=sX q hq;omega
       obtain⟨ca,ka,rfl,bd,bb⟩:=bm π.W ZV;obtain⟨cb,kb,rfl,a9,a8⟩:=bl π.W ZV;have cy:=bd.bM.2.1;have cx:=bb.bM.2.1;have cv:=a9.bM.2.1;have cr:=a8.bM.2.1;have yy:(O.new C ϐb).nx=C.nx+1:=rfl;rw[aE,af,aL,aE,af,aL,aL,aE,af,bW,aP,bW,aP,yy];have kA:Kp [] C (O.new (O.new C ϐb) ϐb):=((Δ [] C).new _).new _;have am:(O.new (O.new C ϐb) ϐb).m.g C.nx=Φ ϐb:=(bo _ _ _ V).trans (ay _ _);have al:(O.new (O.new C ϐb) ϐb).m.g (C.nx+1)=Φ ϐb:=ay (O.new C ϐb) _;have nA:(O.new (O.new C ϐb) ϐb).nx=C.nx+2:=rfl;generalize O.new (O.new C ϐb) ϐb=ab at*;rw[aK,am,aU,aN,Mb _ _ _ _ rfl];refine⟨⟨rfl,by simp[cy,cx],V⟩,?_⟩;rw[aK,ar _ _ _ _ J,al,aU,aN,Mb _ _ _ _ rfl];refine⟨⟨rfl,by simp[cv,cr],V⟩,?_⟩;have kB:Kp [] C (O.set (O.set ab C.nx (Ϙ [.bool a.leaf,ca,ka])) (C.nx+1) (Ϙ [.bool b.leaf,cb,kb])):=(kA.set _ (.inr (hI _)) J).set _ (.inr J) xI;have dF:(O.set (O.set ab C.nx (Ϙ [.bool a.leaf,ca,ka])) (C.nx+1) (Ϙ [.bool b.leaf,cb,kb])).m.g C.nx=Φ (Ϙ [.bool a.leaf,ca,ka]):=(ar _ _ _ _ J).trans (ao ..);have dD:(O.set (O.set ab C.nx (Ϙ [.bool a.leaf,ca,ka])) (C.nx+1) (Ϙ [.bool b.leaf,cb,kb])).m.g (C.nx+1)=Φ (Ϙ [.bool b.leaf,cb,kb]):=ao _ _ _
       have nB:(O.set (O.set ab C.nx (Ϙ [.bool a.leaf,ca,ka])) (C.nx+1) (Ϙ [.bool b.leaf,cb,kb])).nx=C.nx+2:=nA;generalize O.set (O.set ab C.nx (Ϙ [.bool a.leaf,ca,ka])) (C.nx+1) (Ϙ [.bool b.leaf,cb,kb])=U3 at*;have Nz:=bg.trans kB V;have b5:=Je.trans Nz V;have cN:=ht.still b5;have b0:=(Nz.keep u.nx J V).trans aM;have ej:IsNode U3 π.W (.agg [.bool a.leaf,ca,ka]) a:=⟨ca,ka,rfl,bd.mono (kB.mono V),bb.mono (kB.mono V)⟩;have el:IsNode U3 π.W (.agg [.bool b.leaf,cb,kb]) b:=⟨cb,kb,rfl,a9.mono (kB.mono V),a8.mono (kB.mono V)⟩;obtain⟨c4,Tx,aS⟩:=zp left pf Bq0.Sw U3 (Nz.mono V);simp only[aZ,rb,b0,kc,io,Tx];refine aS _ ?_;refine ij dF ?_;refine(pP cN Bq0.u1 (ej.fc V) H.okA H.szA).mono ?_;rintro _ Rz ⟨rfl,ac,cM⟩;have fx:=ac.nx;have gk:=b5.nx;have b1:=(ac.keep u.nx J (xC _ J)).trans b0;have d7:=(ac.keep (C.nx+1) J (xC _ J)).trans dD;refine⟨⟨gt,gt,gt,gt⟩,gt,?_⟩;have YT:=(Nz.mono V).trans ac lk;obtain⟨c3,Hi,a0⟩:=zp (left+1) pn Bq0.WM Rz YT;simp only[e5,ll,ii,b1,lW,kc,io,fV left J,Hi];refine a0 _ ?_;refine ij d7 ?_;refine(pP cM be ((el.mono ac).fc V) H.okB H.szB).mono ?_;rintro _ GX ⟨rfl,WW,cG⟩;have fw:=WW.nx;have b2:=(WW.keep u.nx J (xC _ J)).trans b1;have Sy:=YT.trans WW lk;have ex:=ci.keep Sy λb hb=>⟨Hq,xC b Hq⟩;have eG:=a7.keep Sy λb hb=>⟨Hk,xC b Hk⟩;refine⟨⟨gt,gt,gt,gt⟩,gt,?_⟩;have ql:aR ϐ1 [(0,1,.str sp)] GX=.ok (.agg (ba (gU sp))) GX:=rfl;simp only[e5,ll,ii,b2,lW,kc,io,ql]
       obtain⟨bc,rfl,Ez,dW⟩:=nu ex J (bN _) J;have f5:=wx bc (by simp[Ez])
       have bs:de 4 (.slice bc 0 sm.n.cells.length sm.n.cells.length 4) (I left) GX=.ok (.ptr bc (left*4)) GX:=by
        have:=iq (size:=4) (off:=0) (cap:=sm.n.cells.length) (grow:=4) IY (.inr (hI _)) GX (b:=bc)
        rwa [oa]at this
       have fb:bC (bL sm.n.cells) (left*4) (ba (gU sp))=bL (kK sm.n left sp).cells:=by
        unfold bL;rw[zw (gH _) _ (by simpa using IY) _ rfl];unfold kK;rw[aNx,gq (by simpa using IY)];simp[L3,JO]
       unfold BE;rw[bs,af,aK,dW,aU,aN,fb];refine⟨⟨rfl,rfl,ó⟩,?_⟩;have ai:Kp [bc] GX (O.set GX bc (.cells (bL (kK sm.n left sp).cells) 255 true)):=(Δ _ GX).set _ (.inl V) J;have dX:(O.set GX bc (.cells (bL (kK sm.n left sp).cells) 255 true)).m.g bc=Φ (.cells (bL (kK sm.n left sp).cells) 255 true):=ao ..;have fu:(O.set GX bc (.cells (bL (kK sm.n left sp).cells) 255 true)).nx=GX.nx:=rfl;generalize O.set GX bc (.cells (bL (kK sm.n left sp).cells) 255 true)=VY at*;have d5:VY.m.g u.nx=Φ (Ϙ [.bool (kK sm.n left sp).leaf,.slice bc 0 sm.n.cells.length sm.n.cells.length 4,P]):=(ai.keep u.nx J xI).trans b2;have ecl:(kK sm.n left sp).cells.length=sm.n.cells.length:=by unfold kK;simp;omega
       have eH:=eG.keep ai λb hb=>⟨Hk,by have:=vo b hb;simp;omega⟩
       have fg:IsNode VY π.W (.agg [.bool (kK sm.n left sp).leaf,.slice bc 0 sm.n.cells.length sm.n.cells.length 4,P]) (kK sm.n left sp):=
        ⟨_,_,rfl,.inr ⟨bc,0,_,_,4,rfl,by rw[bN,ecl],⟨hI _,.inr rfl⟩,.inr ⟨xC _ J,J,_,_,_,dX,aft,by rw[tu,lw aft]⟩⟩,eH.sl λb hb=>⟨xC b Hk,Hk⟩⟩
       have cD:=cG.yu ai λb hb=>fJ b (by simp at hb;omega);have ee:=(Je.mono V).trans Sy lk;have b6:=ee.trans ai λq hq=>.inr abf;have er:=aa.mono b6;have aH:∀s,R .sub ν true (ζ ((sm::M).length+1)) ϖ s=.ok (ζ (M.length+1)) s:=e3;obtain⟨fh,U8,Qt⟩:=er.hi (m:=M.length+1) V VY
       have TU:((sm::M).reverse++[f]).take (M.length+1)=M.reverse++[sm]:=by
        rw[SM V];simp
       rw[TU]at Qt;simp only[hlen,af,aH,U8];refine ij d5 ?_;simp only[lx]at lR hm BJ;refine(ih M.length J M rfl cD RM J J Qt fg J).mono ?_;rintro _ fm ⟨rfl,dg,G',cC,et,sW,Dp,du⟩;exact⟨⟨gt,gt⟩,gt,rfl,b6.trans dg lk,G',cC,et,sW,by have:=vd (G.put pf (.node a)) pn (.node b);have:=vd G pf (.node a);simp only[lx];omega,afE⟩
def Oe {a:δ dh}{f:dh}{n:bp}{h:Nat}{x v:K}{d:δ aT}(i:Tg τ π Z G)(j:DC G h f.page a n d)(b:n.size<=640)(e:a.length+2<=G.bT)
 (c:gI Z π.W x (a.reverse++[f])) (g:IsNode Z π.W v n) (k:a.length<=16):Rq0 178 [.ptr τ 0,x,v] Z (EN τ π G d (G.eu.length+(2*a.length+3)) (a.length+2) Z):=Uc a.length a rfl i j b e c g k
end
