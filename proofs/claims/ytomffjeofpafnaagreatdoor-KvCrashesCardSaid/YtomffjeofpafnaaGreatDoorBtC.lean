import Derived.Test.YtomffjeofpafnaaGreatDoorBtB
namespace Lim
open Go
noncomputable section
set_option linter.defProp false
set_option maxRecDepth 100000
section
variable {τ:Nat} {π:PI} {st st':St} {G:GM}
def Ab {n:bo}(h:n.ok)(c:128<=n.size):n.leaf=true\/n.cells≠[]:=by
 by_cases b:n.cells=[]
 .cases d:n.leaf with
  |true=>exact .inl rfl
  |false=>
   exfalso;have a:=h.jR;rw[d,aHM xI,b]at a;have h2:=qN h.Dl;rw[cr,d,b]at c;have f:(uv ([]:List dq).length).length=1:=eR wb;simp only[aHH,aHV]at c;simp only[aJB]at a;rw[a]at h2;have e:(cW false []).length=0:=rfl;omega
 .exact .inr b
structure Wr (τ:Nat)(π:PI)(st:St)(G:GM)(h:Nat)(sm:db)(rest:List db)(LL:List aW)(x:CV)(b53:Nat)(vs:List CV)(s:St)(left:Nat)(first second:bo)(sep:bY)(pf pn:Nat)(aE:List Nat)(d:ux)(Yi Yh:Nat)(cf kf cs ks vcp vkp:CV):Prop where
 vs:vs=[.ptr τ 0,x,.ptr b53 0,.ptr Yi 0,.ptr Yh 0,I left]
 kp:Kp [] st s
 lt:b53<s.nx/\Yi<s.nx/\Yh<s.nx
 ge:st.nx<=b53/\st.nx<=Yi/\st.nx<=Yh
 g53:s.m.g b53=some (.cells [I sm.page,I sm.at_,.bool false,vcp,vkp] 107 false)
 g68:s.m.g Yi=some (.cells [.bool first.leaf,cf,kf] 105 false)
 g69:s.m.g Yh=some (.cells [.bool second.leaf,cs,ks] 105 false)
 n1:IsNode s π.W (.agg [.bool first.leaf,cf,kf]) first
 n2:IsNode s π.W (.agg [.bool second.leaf,cs,ks]) second
 np:Sl s π.W vcp 4 (bM sm.n.cells)/\Sl s π.W vkp 1 (cP sm.n.kids)
 bes:vY G h sm rest left first second sep pf pn LL aE d
 nd:aE.Nodup
 size:first.size+second.size<=700
def Sk:∀(m:Nat) (o:List db),o.length=m->∀{st:St} {G:GM} {f:db} {n:bo} {h:Nat} {x v:CV} {LL:List aW},Tg τ π st G->CD G h f.page o n LL->n.size<=640->o.length+2<=G.cD->
 fR st π.W x (o.reverse++[f])->IsNode st π.W v n->o.length<=16->R 52 [.ptr τ 0,x,v] st (DL τ π G LL (G.ef.length+(2*o.length+3)) (o.length+2) st):=by
 intro m
 induction m using Nat.strongRecOn with
 |_ m ih=>
  intro o hm st G f n h x v LL ht O be jH Z hv AX;have rH:=ht.TH;have U:∀q,st.nx<=q->q∉π.W:=λq hq hh=>adi
  have FT:=hv;obtain⟨Q,M,rfl,NZ,Tt⟩:=hv
  have qR:n.cells.length<=640:=by
   have:=eZ n.leaf n.cells;rw[cr]at be;omega
  refine bK ?_;rw[w52];rw[bS,aT];refine⟨rfl,?_⟩;have k1:Kp [] st (St.new st (.cells [.bool n.leaf,Q,M] 105 false)):=(Kp.refl [] st).new _;have g1:(St.new st (.cells [.bool n.leaf,Q,M] 105 false)).m.g st.nx=some (.cells [.bool n.leaf,Q,M] 105 false):=au _ _;have n1:(St.new st (.cells [.bool n.leaf,Q,M] 105 false)).nx=st.nx+1:=rfl;generalize St.new st (.cells [.bool n.leaf,Q,M] 105 false)=s1 at*;have hO:=Z.mono (k1.mono wb);have yl:(o.reverse++[f]).length=o.length+1:=wb
  have e3:=λs=>by
   have:=zX (o.length+1) uM uM s none
   rwa [aJh]at this
  obtain⟨Pd,Pc,c1,c2,jT⟩:=hO.row (i:=o.length) wb;have hf:(o.reverse++[f])[o.length]'(by simp)=f:=wb
  rw[hf]at c1 c2 jT;have hlen:=λs=>Z.len s;rw[yl]at hlen;simp only[hlen,af,e3];refine jT _ ?_;refine pH c1.bL.2.1 c2.bL.2.1 ?_;have k3:Kp [] s1 (St.new s1 (.cells [I f.page,I f.at_,.bool f.n.leaf,Pd,Pc] 107 false)):=(Kp.refl [] s1).new _;have g3:(St.new s1 (.cells [I f.page,I f.at_,.bool f.n.leaf,Pd,Pc] 107 false)).m.g s1.nx=some (.cells [I f.page,I f.at_,.bool f.n.leaf,Pd,Pc] 107 false):=au _ _;have n3:(St.new s1 (.cells [I f.page,I f.at_,.bool f.n.leaf,Pd,Pc] 107 false)).nx=s1.nx+1:=rfl;generalize St.new s1 (.cells [I f.page,I f.at_,.bool f.n.leaf,Pd,Pc] 107 false)=s3 at*;have lH:=k1.trans k3 wb;have qS:=(k3.keep st.nx uM wb).trans g1;have eh:=hO.mono (k3.mono wb);have t3:=ht.still lH;have v3:=FT.mono (lH.mono wb);have e4:aj .eql (some .int) true (I ((o.length+1:Nat):Int)) (.int .i64 1) s3=.ok (.bool (decide (o.length=0))) s3:=O9
  have e5:∀s,aj .neq (some .int) true (I 0) (.int .i64 0) s=.ok (.bool false) s:=λs=>rfl;simp only[af,e4,ag];have bh:∀s,Kp [] st s->bt .slice Q s=.ok (I n.cells.length) s:=λs hs=>(NZ.mono (hs.mono wb)).len n.cells.length (bQ _) uM s
  have RQ:∀s,Kp [] st s->(n.leaf=true\/n.cells≠[])->R 104 [.ptr τ 0,x,.agg [.bool n.leaf,Q,M]] s λy s'=>DL τ π G LL (G.ef.length+(2*o.length+3)) (o.length+2) st y s':=by
   intro s hs kX;refine(adZ (ht.still hs) O kX be jH (Z.mono (hs.mono wb)) (FT.mono (hs.mono wb)) AX).mono ?_;rintro y s' ⟨rfl,k',G',t',b5,px,Ms⟩;exact⟨rfl,(hs.mono wb).trans k' afk,G',t',b5,px,Ms⟩
  obtain⟨lo,hi,Ll,Lr,L,ps,q,zs,lR,jm,XZ⟩:=O.ctx;cases o with
  |nil=>
   rw[aHP (show decide (([]:List db).length=0)=true from rfl)];obtain⟨_,rfl,rfl,rfl,rfl,rfl⟩:=(show f.page=G.root/\lo=[]/\hi=none/\Ll=[]/\Lr=[]/\ps=[]from zs);have ez:∀s,aj .eql (some .int) true (I n.cells.length) (.int .i64 0) s=.ok (.bool (decide (n.cells.length=0))) s:=λs=>O9
   simp only[fl,ah,af,az,qS,ar,aHN,aHG,aw];simp only[aIm,aIJ]at XZ jm;rw[aHX]at jm;cases gO:n.leaf with
   |true=>
    rw[gO]at qS RQ;simp only[aG,aIj,iy,ba,ah,af,az,qS,ar,aHN,aHI,aHG,aw,bh s3 lH,ez,aF,ag,cR,aIb,aHH,aHV,bU]
    by_cases h0:n.cells.length=0
    .rw[aHQ h0,aHP rfl];refine t3.get' ?_;refine(tU t3.pg 0 (.inl rfl)).mono ?_;rintro _ s4 ⟨rfl,k4,p4⟩;have t4:=t3.of k4 p4;have TD:=(k4.keep s1.nx uM (U _ uM)).trans g3;simp only[e5,af,ag,aHH,aHV,bD,TD,ar,aHG,aw];obtain⟨ty,g,cW⟩:=t4.get;simp only[bj,ah,af,az,cW,ar,aHN,aHG,aw];refine(Et t4.pg (n:=f.page) O.bW).mono ?_;rintro _ s5 ⟨rfl,k5,p5⟩
     have X0:LL=[]:=by
      rw[<-XZ];obtain⟨_,c⟩:n.cells=[]/\True:=⟨aIh.1 h0,afp⟩;have bR:=lR.leaf;cases h with
      |zero=>
       obtain⟨_,_,bk,_⟩:=lR;rw[aIh.1 h0]at bk;exact bk.1
      |succ h=>rw[gO]at bR;cases bR
     exact⟨⟨afp,afp,afp⟩,afp,rfl,(((lH.mono wb).trans k4 afk).trans k5 afk),_,t4.of k5 p5,⟨(rO (O.ok.fD 0) O.bW).ok,.inl ⟨rfl,X0⟩⟩,rfl,aIz (xh (G.fD 0) f.page) (by show G.ef.length+1<=_;omega),by have h1:=(rO (O.ok.fD 0) O.bW).free;have h2:(G.fD 0).cD=G.cD:=rfl;omega⟩
    .rw[aHL h0,aHM xI];rw[aM (n:=3) qS rfl,af];exact RQ s3 lH (.inl rfl)
   |false=>
    rw[gO]at qS RQ;simp only[aG,aIj,iy,ba,bU,ah,af,az,qS,ar,aHN,aHI,aHG,aw,bh s3 lH,ez,aF,ag,cR,aHY,aHH,aHV]
    by_cases h0:n.cells.length=0
    .rw[aHQ h0,aHP rfl];have cZ:=aIh.1 h0;cases h with
     |zero=>have:=lR.leaf;rw[gO]at this;cases this
     |succ h=>
      obtain⟨_,A4⟩:=lR;have yT:=A4.len;have cN:n.fe=[]:=by unfold bo.fe;rw[cZ];rfl
      rw[cN]at A4 yT;obtain⟨X,Ff⟩:∃X,n.kids=[X]:=List.length_eq_one_iff.1 (by simpa using yT);rw[Ff,cq.one]at A4;obtain⟨_,uE⟩:=A4;have cO:G.bW X:=by obtain⟨nn,qq,Cr,_⟩:=uE;exact Cr.bW
      have aC:=Tt.mono (lH.mono wb);rw[Ff]at aC;obtain⟨ty,g,cX⟩:=t3.get;have bi:∀K:CV->Prop,K (I X)->Lim.idx 1 M (I ((0:Nat):Int)) s3 K:=λK hK=>aC.idx (i:=0) wb K hK
      have dB:∃p,cV 1 M (.int .i64 0) s3=.ok p s3/\∀K:CV->Prop,K (I X)->us (aA p s3) K:=by
       obtain⟨b,p,l,t,g,q1,q2,q3,q4,q5⟩:=(show Sl s3 π.W M 1 ([[I X]]:List (List CV)).flatten from aC).cellAt uM wb (i:=0) wb;refine⟨_,q1 s3,λK hK=>?_⟩;have:=q5 0 (I X) rfl;rw[aIv]at this;rw[az,q2,ar,this];exact hK
      obtain⟨p,Vj,NP⟩:=dB;simp only[bD,bj,ah,af,az,cX,ar,aHN,aHG,aw,Vj];refine NP _ ?_;refine(tU t3.pg X (.inr cO)).mono ?_;rintro _ s6 ⟨rfl,k6,p6⟩;have t6:=t3.of k6 p6;have c8:=(k6.keep s1.nx uM (U _ uM)).trans g3;obtain⟨eg,eW,cU⟩:=t6.get;simp only[e5,af,ag,aHH,aHV,cU,c8,ar,aHG,aw,aKc];refine(Et t6.pg (n:=f.page) O.bW).mono ?_;rintro _ s7 ⟨rfl,k7,p7⟩;have hD:=rO (O.ok.fD X) O.bW;refine⟨rfl,(((lH.mono wb).trans k6 afk).trans k7 afk),_,t6.of k7 p7,⟨hD.ok,.inr ⟨h,q,jm.2,?_⟩⟩,rfl,aIz (xh (G.fD X) f.page) (by show G.ef.length+1<=_;omega),by have h1:=hD.free;have h2:(G.fD X).cD=G.cD:=rfl;omega⟩;rw[<-XZ];exact(show Sub G h X [] none L q from uE).kept λz hz=>⟨λhu=>(hD.bW z).2 ⟨hu,λe=>jm.1 (e▸hz)⟩,rfl⟩
    .rw[aHL h0,aHM xI];rw[aM (n:=3) qS rfl,af];exact RQ s3 lH (.inr λe=>h0 (by rw[e];rfl))
  |cons sm E=>
   rw[aHM (show¬decide ((sm::E).length=0)=true by simp)];refine gI qS ?_;refine(Ef t3.fr (v3.eH wb) O.ON uM).mono ?_;rintro _ N ⟨rfl,k9⟩;have ap:=lH.trans k9 wb;have n9:=k9.nx;have Yc:=(k9.keep st.nx uM wb).trans qS;have e6:aj .geq none true (I n.size) (.int .i64 128) N=.ok (.bool (decide (128<=n.size))) N:=by rw[av,qE];congr 2;simp only[aIi];omega
   rw[e6,af,ag]
   by_cases aB:128<=n.size
   .rw[aHQ aB,aHP rfl];refine gI Yc ?_;exact RQ N ap (Ab O.ON aB)
   .rw[aHL aB,aHM xI];have XP:=zs;obtain⟨_,_,_,_,_,_,_,_,_,_,NO,ZF,dC,_⟩:=zs
    have fg:sm.n.cells.length<=512:=by
     have:=eZ sm.n.leaf sm.n.cells;have:=NO.size;rw[cr]at this;omega
    have ZG:=NO.ok.jR;rw[ZF,aHM xI]at ZG;obtain⟨KD,_⟩:=aHW.1 dC
    have ot:2<=sm.n.kids.length:=by
     rcases NO.full with h|h
     .rw[ZF]at h;cases h
     .have:=aJu.2 h;omega
    have cj:=Z.mono (ap.mono wb)
    have e7:aj .sub none true (I (((sm::E).length+1:Nat):Int)) (.int .i64 2) N=.ok (I E.length) N:=by
     rw[av,dS,aIg,bA (by simp at AX;omega)];congr 2;omega
    obtain⟨C,D,d1,d2,HB⟩:=cj.row (i:=E.length) wb;have Mn:((sm::E).reverse++[f])[E.length]'(by simp)=sm:=wb
    rw[Mn,ZF]at HB;rw[Mn]at d1 d2;rw[e7,af];refine HB _ ?_;refine pH d1.bL.2.1 d2.bL.2.1 ?_;have nJ:Kp [] N (St.new N (.cells [I sm.page,I sm.at_,.bool false,C,D] 107 false)):=(Kp.refl [] N).new _;have rJ:(St.new N (.cells [I sm.page,I sm.at_,.bool false,C,D] 107 false)).m.g N.nx=some (.cells [I sm.page,I sm.at_,.bool false,C,D] 107 false):=au _ _;have LI:(St.new N (.cells [I sm.page,I sm.at_,.bool false,C,D] 107 false)).nx=N.nx+1:=rfl;generalize St.new N (.cells [I sm.page,I sm.at_,.bool false,C,D] 107 false)=bV at*;have yn:=ap.trans nJ wb;have dm:=(nJ.keep st.nx uM wb).trans Yc;have ai:=d2.mono (nJ.mono wb);have br:=d1.mono (nJ.mono wb);have d6:=ai.len sm.n.kids.length wb uM bV;simp only[fl,ah,af,az,rJ,ar,aHN,Nat.reduceAdd,aHI,aHG,aw,gJ sm.at_ uM];refine kY (λvs s=>bV=s/\∃r:Nat,vs=[.ptr τ 0,x,.ptr st.nx 0,.ptr N.nx 0,I sm.at_,I r]/\((r=sm.at_+1/\sm.at_+1<sm.n.kids.length)\/(sm.at_=r+1/\sm.at_+1=sm.n.kids.length))) ?_ ?_
    .intro k' uc;have e8:aj .eql (some .int) false (I ((sm.at_+1:Nat):Int)) (I sm.n.kids.length) bV=.ok (.bool (decide (sm.at_+1=sm.n.kids.length))) bV:=by rw[av,cC];congr 2;simp only[aIi];omega
     simp only[d6,af,e8,ag]
     by_cases HM:sm.at_+1=sm.n.kids.length
     .rw[aHQ HM,aHP rfl,zX sm.at_ uM uM,af];exact uc _ _ ⟨rfl,sm.at_-1,rfl,.inr ⟨uM,HM⟩⟩
     .rw[aHL HM,aHM xI];exact uc _ _ ⟨rfl,sm.at_+1,rfl,.inl ⟨rfl,uM⟩⟩
    .rintro _ _ ⟨rfl,r,rfl,OW⟩
     have hB:∃(other:bo) (po left:Nat) (first j:bo) (k:bY) (pf pn:Nat) (d:ux),nP G po other/\sm.n.kids[r]?=some po/\vY G h sm E left first j k pf pn (Ll++(L++Lr)) (f.page::(q++ps)) d/\
      ((r=sm.at_+1/\left=sm.at_/\first=n/\j=other)\/(sm.at_=r+1/\left=r/\first=other/\j=n)):=by
      rcases OW with⟨e,bf⟩|⟨e,bf⟩
      .obtain⟨other,pn,k,d,x1,x2⟩:=M6 XP O.bW O.ON lR bf;exact⟨other,pn,_,_,_,k,_,pn,d,x1,by rw[e];exact x2.US,x2,.inl ⟨e,rfl,rfl,rfl⟩⟩
      .obtain⟨other,pf,k,d,x1,x2⟩:=PD XP O.bW O.ON lR e;exact⟨other,pf,_,_,_,k,pf,_,d,x1,x2.QA,x2,.inr ⟨e,rfl,rfl,rfl⟩⟩
     obtain⟨other,po,left,first,j,k,pf,pn,d,so,cQ,aN,d9⟩:=hB;rw[XZ]at aN;obtain⟨te,c4⟩:=aHW.1 cQ;simp only[aK,aL,ah,af,az,rJ,ar,aHN,Nat.reduceAdd,aHI,aHG,aw];refine ai.idx (i:=r) (by simpa using te) _ ?_;have e9:(cP sm.n.kids)[r]'(by simpa using te)=I po:=by simp[cP,c4]
     rw[e9];refine(zU (ht.still yn) so).mono ?_;rintro _ eP ⟨xo,rfl,vI,a9⟩;have eM:=vI.nx;have XX:∀b∈π.W,b<bV.nx:=λb hb=>by have:=rH b hb;have:=yn.nx;omega
     obtain⟨S,T,rfl,o1,o2⟩:=a9 π.W XX;simp only[aD,aI,af];refine tV o1.bL.2.1 o2.bL.2.1 ?_;have yj:Kp [] eP (St.new eP (.cells [.bool other.leaf,S,T] 105 false)):=(Kp.refl [] eP).new _;have RW:(St.new eP (.cells [.bool other.leaf,S,T] 105 false)).m.g eP.nx=some (.cells [.bool other.leaf,S,T] 105 false):=au _ _;have eL:(St.new eP (.cells [.bool other.leaf,S,T] 105 false)).nx=eP.nx+1:=rfl;generalize St.new eP (.cells [.bool other.leaf,S,T] 105 false)=w at*;have si:=vI.trans yj wb;have bC:=(si.keep st.nx (by have:=yn.nx;omega) wb).trans dm;have Ya:=(si.keep N.nx uM wb).trans rJ;rw[e5,af,ag,aHM xI,bD];have yy:(St.new w (.cells [.bool false,.ae,.ae] 105 false)).nx=w.nx+1:=rfl;have kA:Kp [] w (St.new (St.new w (.cells [.bool false,.ae,.ae] 105 false)) (.cells [.bool false,.ae,.ae] 105 false)):=((Kp.refl [] w).new _).new _;have ad:(St.new (St.new w (.cells [.bool false,.ae,.ae] 105 false)) (.cells [.bool false,.ae,.ae] 105 false)).m.g w.nx=some (.cells [.bool false,.ae,.ae] 105 false):=(aX _ _ _ wb).trans (au _ _);have ac:(St.new (St.new w (.cells [.bool false,.ae,.ae] 105 false)) (.cells [.bool false,.ae,.ae] 105 false)).m.g (w.nx+1)=some (.cells [.bool false,.ae,.ae] 105 false):=au (St.new w (.cells [.bool false,.ae,.ae] 105 false)) _;have nA:(St.new (St.new w (.cells [.bool false,.ae,.ae] 105 false)) (.cells [.bool false,.ae,.ae] 105 false)).nx=w.nx+2:=rfl;rw[yy];generalize St.new (St.new w (.cells [.bool false,.ae,.ae] 105 false)) (.cells [.bool false,.ae,.ae] 105 false)=sA at*;have bO:=yn.trans si wb;have fa:=bO.nx;have Ks:∀(y:List CV) a b c,y.length=3->bz y 0 [a,b,c]=[a,b,c]:=λy a b c hy=>dU _ _ (by simp[hy]);have dc:=(kA.keep st.nx uM wb).trans bC;have bG:=(kA.keep eP.nx uM wb).trans RW;have fj:=(kA.keep N.nx adz wb).trans Ya
     obtain⟨q1,q2,q3⟩:=NZ.bL;obtain⟨q4,q5,q6⟩:=Tt.bL;obtain⟨q7,q8,q9⟩:=o1.bL;obtain⟨eq,a0,ep⟩:=o2.bL;rw[aM (n:=3) dc rfl,af,aM (n:=3) bG rfl,af,kh ad,aP,kh ac,aP,aH,ad,aS,aT,Ks _ _ _ _ rfl];refine⟨⟨rfl,by simp[q2,q5],wb⟩,?_⟩;rw[aH,ak _ _ _ _ uM,ac,aS,aT,Ks _ _ _ _ rfl];refine⟨⟨rfl,by simp[q8,a0],wb⟩,?_⟩;have df:(St.set sA w.nx (.cells [.bool n.leaf,Q,M] 105 false)).m.g eP.nx=_:=(ak _ _ _ _ uM).trans bG;rw[aM (n:=3) df rfl,af];refine⟨⟨afp,⟨rfl,afp⟩,afp,afp,afp⟩,afp,?_⟩;have kC:Kp [] w (St.set (St.set sA w.nx (.cells [.bool n.leaf,Q,M] 105 false)) (w.nx+1) (.cells [.bool other.leaf,S,T] 105 false)):=(kA.set _ (.inr (aHK _)) uM).set _ (.inr uM) zS;have bm:(St.set (St.set sA w.nx (.cells [.bool n.leaf,Q,M] 105 false)) (w.nx+1) (.cells [.bool other.leaf,S,T] 105 false)).m.g w.nx=some (.cells [.bool n.leaf,Q,M] 105 false):=(ak _ _ _ _ uM).trans (an _ _ _);have bl:(St.set (St.set sA w.nx (.cells [.bool n.leaf,Q,M] 105 false)) (w.nx+1) (.cells [.bool other.leaf,S,T] 105 false)).m.g (w.nx+1)=some (.cells [.bool other.leaf,S,T] 105 false):=an _ _ _;have nC:(St.set (St.set sA w.nx (.cells [.bool n.leaf,Q,M] 105 false)) (w.nx+1) (.cells [.bool other.leaf,S,T] 105 false)).nx=w.nx+2:=nA;generalize St.set (St.set sA w.nx (.cells [.bool n.leaf,Q,M] 105 false)) (w.nx+1) (.cells [.bool other.leaf,S,T] 105 false)=kH at*;have Vw:=bO.trans kC wb;have AQ:=si.trans kC wb;have bE:=(kC.keep st.nx uM wb).trans bC;have d0:=(kC.keep eP.nx uM wb).trans RW;have X9:=(kC.keep N.nx adz wb).trans Ya;have dK:=FT.mono (Vw.mono wb);have dL:IsNode kH π.W (.agg [.bool other.leaf,S,T]) other:=⟨S,T,rfl,(o1.mono (yj.mono wb)).mono (kC.mono wb),(o2.mono (yj.mono wb)).mono (kC.mono wb)⟩
     have eT:=so.size;refine kY (λvs s=>∃Yi Yh cf kf cs ks,Wr τ π st G h sm E LL x N.nx vs s left first j k pf pn (f.page::(q++ps)) d Yi Yh cf kf cs ks C D) ?_ ?_
     .intro eS bP;rw[dD,af,ag];rcases d9 with⟨x1,rfl,rfl,rfl⟩|⟨x1,rfl,rfl,rfl⟩
      .rw[aHL uM,aHM xI];exact bP _ _ ⟨_,_,Q,M,S,T,rfl,Vw,⟨uM,uM,uM⟩,⟨uM,uM,uM⟩,X9,bm,bl,dK,dL,⟨br.mono (AQ.mono wb),ai.mono (AQ.mono wb)⟩,aN,jm,uM⟩
      .rw[aHQ uM,aHP rfl,bD,aM (n:=3) d0 rfl,af,aM (n:=3) bE rfl,af,aH,bm,aS,aT,Ks _ _ _ _ rfl];refine⟨⟨rfl,by simp[q8,a0],wb⟩,?_⟩;rw[aH,ak _ _ _ _ uM,bl,aS,aT,Ks _ _ _ _ rfl];refine⟨⟨rfl,by simp[q2,q5],wb⟩,?_⟩;have da:(St.set kH w.nx (.cells [.bool first.leaf,S,T] 105 false)).m.g st.nx=_:=(ak _ _ _ _ uM).trans bE;rw[aM (n:=3) da rfl,af];refine⟨⟨afp,⟨rfl,afp⟩,afp⟩,afp,?_⟩;have kE:Kp [w.nx,w.nx+1] kH (St.set (St.set kH w.nx (.cells [.bool first.leaf,S,T] 105 false)) (w.nx+1) (.cells [.bool j.leaf,Q,M] 105 false)):=((Kp.refl _ kH).set (p:=w.nx) _ (.inl wb) uM).set (p:=w.nx+1) _ (.inl wb) zS;have cH:=(FT.eH (Y:=π.W++[w.nx,w.nx+1]) (by intro b hb;simp at hb;rcases hb with h|h|h;exact .inl h;right;omega;right;omega)).mono (Vw.mono wb);have cy:=(((a9 (π.W++[]) (by simpa using XX)).eH (Y:=π.W++[w.nx,w.nx+1]) (by intro b hb;simp at hb⊢;rcases hb with h|h|h;exact .inl h;right;omega;right;omega)).mono (yj.mono wb)).mono (kC.mono wb);have VI:∀b∈[w.nx,w.nx+1],b∈π.W++[w.nx,w.nx+1]\/kH.nx<=b:=λb hb=>.inl (by simp at hb⊢;rcases hb with h|h<;>simp[h]);refine bP _ _ ⟨w.nx,w.nx+1,S,T,Q,M,rfl,(Vw.mono wb).trans kE (by intro b hb;simp at hb;right;omega),⟨zS,zS,zS⟩,⟨uM,uM,uM⟩,(ak _ _ _ _ adz).trans ((ak _ _ _ _ adz).trans X9),(ak _ _ _ _ uM).trans (an _ _ _),an _ _ _,(cy.mono (kE.mono VI)).eH (by intro b hb;simp[hb]),(cH.mono (kE.mono VI)).eH (by intro b hb;simp[hb]),⟨?_,?_⟩,aN,jm,uM⟩
       .have:=((br.eH (Y:=π.W++[w.nx,w.nx+1]) (by intro b hb;simp at hb;rcases hb with h|h|h;exact .inl h;right;have:=si.nx;omega;right;have:=si.nx;omega)).mono (AQ.mono wb)).mono (kE.mono VI);exact this.eH (by intro b hb;simp[hb])
       .have:=((ai.eH (Y:=π.W++[w.nx,w.nx+1]) (by intro b hb;simp at hb;rcases hb with h|h|h;exact .inl h;right;have:=si.nx;omega;right;have:=si.nx;omega)).mono (AQ.mono wb)).mono (kE.mono VI);exact this.eH (by intro b hb;simp[hb])
     .rintro vs u ⟨Yi,Yh,cf,kf,cs,ks,⟨rfl,al,⟨eQ,eO,eN⟩,⟨w53,w68,w69⟩,g53,g68,g69,N1,N2,⟨p1,p2⟩,B,-,dF⟩⟩;have fb:=B;obtain⟨eb,HL,yU,cL,c0,c3⟩:=vT B;have fh:=al.nx;simp only[aK,aL]
      have Kz:∀K:CV->Prop,K (.agg [.bool false,C,D])->OZ 3 2 (.ptr N.nx 0) u K:=λK hK=>by
       unfold OZ;rw[ah,af,gL (n:=3) g53 wb,af];exact hK
      refine Kz _ ?_;refine tV p1.bL.2.1 p2.bL.2.1 ?_;have a7:Kp [] u (St.new u (.cells [.bool false,C,D] 105 false)):=(Kp.refl [] u).new _;have aq:(St.new u (.cells [.bool false,C,D] 105 false)).m.g u.nx=some (.cells [.bool false,C,D] 105 false):=au _ _;have eK:(St.new u (.cells [.bool false,C,D] 105 false)).nx=u.nx+1:=rfl;generalize St.new u (.cells [.bool false,C,D] 105 false)=CP at*;rw[bD,ah,af,az,aq,ar];simp only[aHN,aHI,aHG,aw];refine(xp ((p1.eH (Y:=[]) wb).mono (a7.mono wb)) (eV _) acF).mono ?_;rintro P r7 ⟨F1,Ck,o1,Om,_⟩;have eJ:=Ck.nx;have Ih:=(Ck.keep u.nx uM wb).trans aq;rw[ah,af,az,Ih,ar];simp only[aHN,aHI,aHG,aw];have Xb:=a7.trans Ck wb;refine(Bn ((p2.eH (Y:=[]) wb).mono (Xb.mono wb)) (jP _) (by rw[qM];omega)).mono ?_;rintro J ic ⟨F2,aa,o2,dd,_⟩;have eI:=aa.nx;have TE:=(aa.keep u.nx uM wb).trans Ih;have d7:=Xb.trans aa wb;obtain⟨YW,UG⟩:=o1.cF;obtain⟨cB,cA⟩:=o2.cF;rw[ah,af,aH,TE,aS,UG];refine⟨⟨rfl,by simp[YW],wb⟩,?_⟩;rw[ah,af,aH,an,aS,cA];refine⟨⟨rfl,by simp[cB],by simp[bz]⟩,?_⟩;rw[az,aq,ar];refine⟨⟨afp,⟨rfl,afp⟩,afp⟩,afp,?_⟩;have Xa:Kp [] u (St.set (St.set ic u.nx (.cells (bz [.bool false,C,D] (0+1) [P]) 105 false)) u.nx (.cells (bz (bz [.bool false,C,D] (0+1) [P]) (0+2) [J]) 105 false)):=(d7.set _ (.inr (aHK _)) uM).set _ (.inr (aHK _)) zS;have c9:(St.set (St.set ic u.nx (.cells (bz [.bool false,C,D] (0+1) [P]) 105 false)) u.nx (.cells (bz (bz [.bool false,C,D] (0+1) [P]) (0+2) [J]) 105 false)).m.g u.nx=some (.cells [.bool false,P,J] 105 false):=an _ _ _;have eG:(St.set (St.set ic u.nx (.cells (bz [.bool false,C,D] (0+1) [P]) 105 false)) u.nx (.cells (bz (bz [.bool false,C,D] (0+1) [P]) (0+2) [J]) 105 false)).nx=ic.nx:=rfl;have uU:∀b∈F1,u.nx<b/\b<r7.nx:=λb hb=>aeH
      have tY:=dd;have bZ:Own (St.set (St.set ic u.nx (.cells (bz [.bool false,C,D] (0+1) [P]) 105 false)) u.nx (.cells (bz (bz [.bool false,C,D] (0+1) [P]) (0+2) [J]) 105 false)) P 4 109 (bM sm.n.cells) F1:=(o1.keep aa λb hb=>⟨(uU b hb).2,wb⟩).mono λb hb=>by have:=uU b hb;rw[ak _ _ _ _ uM,ak _ _ _ _ uM]
      have dP:Own (St.set (St.set ic u.nx (.cells (bz [.bool false,C,D] (0+1) [P]) 105 false)) u.nx (.cells (bz (bz [.bool false,C,D] (0+1) [P]) (0+2) [J]) 105 false)) J 1 3 (cP sm.n.kids) F2:=o2.mono λb hb=>by have:=tY b hb;rw[ak _ _ _ _ uM,ak _ _ _ _ uM]
      generalize St.set (St.set ic u.nx (.cells (bz [.bool false,C,D] (0+1) [P]) 105 false)) u.nx (.cells (bz (bz [.bool false,C,D] (0+1) [P]) (0+2) [J]) 105 false)=F at*;have WZ:Kp [] F (St.new F (.cells [.bool false,.ae,.ae] 105 false)):=(Kp.refl [] F).new _;have bF:(St.new F (.cells [.bool false,.ae,.ae] 105 false)).m.g F.nx=some (.cells [.bool false,.ae,.ae] 105 false):=au _ _;have eE:(St.new F (.cells [.bool false,.ae,.ae] 105 false)).nx=F.nx+1:=rfl;rw[bD];generalize St.new F (.cells [.bool false,.ae,.ae] 105 false)=xY at*;have Dm:=Xa.trans WZ wb;have bq:=(WZ.keep u.nx uM wb).trans c9;have d3:=(Dm.keep Yi uM wb).trans g68;have d4:=(Dm.keep Yh uM wb).trans g69;have ea:Sl xY [] P 4 (sm.n.cells.map bg).flatten:=(bZ.keep WZ λb hb=>⟨TO,wb⟩).sl λb hb=>⟨wb,TO⟩;have ee:left<(sm.n.cells.map bg).length:=by simpa using HL
      obtain⟨cb,cp,cl,ct,cg,cn,cm,eo,en,ck⟩:=ea.cellAt uM (fQ _) (i:=left) ee
      have dE:sm.n.cells[left]=cL:=by
       obtain⟨_,h⟩:=aHW.1 c0;exact h
      have HP:cl[cp]?=some (.str k):=by
       have:=ck 0 (.str k) (by simp[dE,bg,c3])
       rwa [aIv]at this
      refine gI d3 ?_;simp only[af,az,bq,ar,aHN,aHI,aHG,aw,cn,ah,cm,aIv,HP];refine gI d4 ?_;have FY:first.cells.length<=700:=by have:=eZ first.leaf first.cells;have:=dF;rw[cr]at this;omega
      have BO:j.cells.length<=700:=by
       have:=eZ j.leaf j.cells;have h3:=cr j;omega
      have dn:first.kids.length<=1001:=by rw[B.ok1.jR];split<;>omega
      have dp:j.kids.length<=1001:=by rw[B.ok2.jR];split<;>omega
      have dj:=Dm.fresh (al.fresh ht.fr);obtain⟨J1,J2,J3⟩:=B.c1.join B.c2 B.ok1 B.ok2 eb;refine(Wn dj ((N1.eH wb).mono Dm) ((N2.eH wb).mono Dm) uM uM dn dp).mono ?_;rintro xw zi ⟨NH,a8⟩;have eD:=NH.nx;have du:=al.trans Dm wb;have e1:=du.nx;obtain⟨cw,kw,rfl,w1,w2⟩:=a8 (π.W++[]) (by intro b hb;simp at hb;have:=rH b hb;omega);have Yb:=(NH.keep F.nx uM wb).trans bF;have dz:=(NH.keep u.nx uM wb).trans bq;rw[kh Yb,aP,aH,Yb,aS,aT,Ks _ _ _ _ rfl];refine⟨⟨rfl,by simp[w1.bL.2.1,w2.bL.2.1],wb⟩,?_⟩;rw[kh bF,aP];refine⟨⟨afp,afp,afp,afp,⟨rfl,afp⟩,afp⟩,afp,?_⟩;have QG:Kp [] F (St.set zi F.nx (.cells [.bool (dx first k j).leaf,cw,kw] 105 false)):=(WZ.trans NH wb).set _ (.inr (aHK _)) uM;have bp:(St.set zi F.nx (.cells [.bool (dx first k j).leaf,cw,kw] 105 false)).m.g F.nx=some (.cells [.bool (dx first k j).leaf,cw,kw] 105 false):=an _ _ _;have dq:(St.set zi F.nx (.cells [.bool (dx first k j).leaf,cw,kw] 105 false)).m.g u.nx=some (.cells [.bool false,P,J] 105 false):=(ak _ _ _ _ uM).trans dz;have eC:(St.set zi F.nx (.cells [.bool (dx first k j).leaf,cw,kw] 105 false)).nx=zi.nx:=rfl
      have bT:IsNode (St.set zi F.nx (.cells [.bool (dx first k j).leaf,cw,kw] 105 false)) (π.W++[F.nx]) (.agg [.bool (dx first k j).leaf,cw,kw]) (dx first k j):=by
       obtain⟨eX,eR,e,w3,w4⟩:=a8 (π.W++[F.nx]) (by intro b hb;simp at hb;rcases hb with h|h;have:=rH b h;omega;omega);simp only[CV.agg.injEq,aJl,and_true,aKc]at e;obtain⟨rfl,rfl⟩:=e;have X:Kp [F.nx] zi (St.set zi F.nx (.cells [.bool (dx first k j).leaf,cw,kw] 105 false)):=(Kp.refl _ zi).set _ (.inl wb) uM;exact⟨cw,kw,rfl,w3.mono (X.mono (by intro b hb;left;simp at hb⊢;exact .inr hb)),w4.mono (X.mono (by intro b hb;left;simp at hb⊢;exact .inr hb))⟩
      generalize St.set zi F.nx (.cells [.bool (dx first k j).leaf,cw,kw] 105 false)=em at*;have d8:=Xa.trans QG wb;have bH:=al.trans d8 wb;have dM:=bZ.keep QG λb hb=>⟨TO,wb⟩;have dQ:=dP.keep QG λb hb=>⟨Tc,wb⟩;refine gI bp ?_
      have cS:(dx first k j).cells.length<=1000:=by
       have:=eZ (dx first k j).leaf (dx first k j).cells;have h3:=cr (dx first k j);omega
      have dk:=bH.fresh ht.fr;refine(Ef dk (bT.eH wb) J2 cS).mono ?_;rintro _ Jw ⟨rfl,Zi⟩;have eB:=Zi.nx;have Ia:=bH.trans Zi wb;have bn:=(Zi.keep F.nx uM wb).trans bp;have ay:=(Zi.keep u.nx uM wb).trans dq;have b0:=dM.keep Zi λb hb=>⟨TO,wb⟩;have YX:=dQ.keep Zi λb hb=>⟨Tc,wb⟩;have bX:=bT.mono (Zi.mono wb);have ci:=ht.still Ia;have eY:=Z.mono (Ia.mono wb);have de:aj .leq none true (I (dx first k j).size) (.int .i64 512) Jw=.ok (.bool (decide ((dx first k j).size<=512))) Jw:=Wv
      rw[de,af,ag]
      have ym:∀(i:Nat) (p:Nat),sm.n.kids[i]?=some p->∀s,Kp π.W Jw s->∃a,cV 1 J (I i) s=.ok a s/\∀K:CV->Prop,K (I p)->us (aA a s) K:=by
       intro i p hi s hs;obtain⟨FW,cT⟩:=aHW.1 hi
       have jS:Sl s π.W J 1 ((cP sm.n.kids).map λx=>[x]).flatten:=by
        have h2:=YX.sl λb hb=>⟨U b Tc,Tc⟩;have e:((cP sm.n.kids).map λx=>[x]).flatten=cP sm.n.kids:=by simp[<-List.flatMap_def]
        rw[e];exact h2.mono hs
       obtain⟨b,p',l,t,g,a1,a2,a3,a4,a5⟩:=jS.cellAt uM wb (i:=i) (by simpa using FW);refine⟨_,a1 s,λK hK=>?_⟩;have:=a5 0 (I p) (by simp[cP,cT]);rw[aIv]at this;rw[az,a2,ar,this];exact hK
      by_cases Fp:(dx first k j).size<=512
      .rw[aHQ Fp,aHP rfl,bD];obtain⟨c5,ed,fd,fc⟩:=IE B O.ok jm Fp;have eF:∀b,st.nx<=b->b∉π.all/\b≠τ:=λb hb=>⟨λhh=>by have:=ht.pg.lt b hh;omega,λe=>adA⟩;obtain⟨cv,RE,aE⟩:=ym left pf B.QA Jw (Kp.refl _ _);simp only[af,ay,ar,aHI,aHG,aw,RE];refine aE _ ?_;refine gI bn ?_;refine(om ci B.u1 (bX.eH wb) J2 Fp).mono ?_;rintro _ M8 ⟨rfl,Tk,am⟩;have eA:=Tk.nx;have d5:=Ia.nx;have bs:=(Tk.keep u.nx uM (U _ uM)).trans ay;obtain⟨co,FZ,aJ⟩:=ym (left+1) pn B.US M8 Tk;obtain⟨e0,fi,dA⟩:=am.get;rw[e5,af,ag,aHM xI,bD,bj,af];simp only[dA,ar,aHN,aHI,aHG,aw,bs,gJ left uM,af,ah,az,FZ];refine⟨⟨afp,afp,afp,afp⟩,afp,?_⟩;refine aJ _ ?_;refine(Et am.pg c5).mono ?_;rintro _ Uk ⟨rfl,Zh,cx⟩;have ey:=Zh.nx;have ch:=am.of Zh cx;have QF:=Tk.trans Zh afk;have bu:=(Zh.keep u.nx uM (U _ uM)).trans bs;have dN:=b0.keep QF λb hb=>⟨TO,U b TO⟩;have dR:=YX.keep QF λb hb=>⟨Tc,U b Tc⟩;refine⟨⟨afp,afp,afp,afp⟩,afp,?_⟩;have dZ:∀s,aj .add none true (I left) (.int .i64 2) s=.ok (I ((left+1+1:Nat):Int)) s:=λs=>by rw[av,cI,bA uM];rfl
       rw[e5,af,ag,aHM xI,bD];simp only[ar,aHI,aHG,aw,bu];refine(Iq (n:=sm.n.cells.length) dN (bQ _) uM (λb hb=>TO) (eV _) HL).mono ?_;rintro V el ⟨cG,ao,ex⟩;have bv:=(ao.keep u.nx uM (λhh=>adj)).trans bu;have dT:=dR.keep ao λb hb=>⟨Tc,λhh=>by have:=uU b hh;have:=tY b hb;omega⟩;simp only[ar,aHI,aHG,aw,bv,dZ,af];refine(Ou (n:=sm.n.kids.length) (i:=left+1) dT wb uM (λb hb=>Tc) (jP _) uM).mono ?_;rintro zh PM ⟨cE,OO,ew⟩;have dr:=(OO.keep u.nx uM (λhh=>by have:=tY _ hh;omega)).trans bv
       have PB:=(cG (π.W++(u.nx::F2)) (λb hb hh=>by
        have:=uU b hb;simp at hh;rcases hh with hh|hh|hh
        .exact U b uM hh
        .omega
        .have:=tY b hh;omega)).mono (OO.mono (by intro q hq;left;simp[hq]))
       have PA:Sl PM (π.W++[u.nx]) zh 1 ((cP sm.n.kids).take ((left+1)*1)++(cP sm.n.kids).drop ((left+1+1)*1)):=cE _ λb hb hh=>by
        have:=tY b hb;simp at hh;rcases hh with hh|hh
        .exact U b uM hh
        .omega
       have ec:(bM sm.n.cells).take (left*4)++(bM sm.n.cells).drop ((left+1)*4)=bM (uD sm.n left).cells:=by
        rw[lL _ _ uM,lM _ _ uM,<-iA];rfl
       have ek:(cP sm.n.kids).take ((left+1)*1)++(cP sm.n.kids).drop ((left+1+1)*1)=cP (uD sm.n left).kids:=by
        rw[aJr,aJr,vF,vG,<-nY];rfl
       rw[ec]at PB;rw[ek]at PA;obtain⟨z1,z2,z3⟩:=PB.bL;obtain⟨z4,z5,z6⟩:=PA.bL;have qf:bz [.bool false,P,J] 1 [V]=[.bool false,V,J]:=rfl;have kJ:bz [.bool false,V,J] 2 [zh]=[.bool false,V,zh]:=rfl;rw[aH,dr,aS,z3,qf];refine⟨⟨rfl,by simp[z2],wb⟩,?_⟩;rw[aH,an,aS,z6,kJ];refine⟨⟨rfl,by simp[z5],wb⟩,⟨afp,⟨afp,afp⟩,afp⟩,afp,?_⟩;have QD:Kp [u.nx] PM (St.set (St.set PM u.nx (.cells [.bool false,V,J] 105 false)) u.nx (.cells [.bool false,V,zh] 105 false)):=((Kp.refl _ PM).set _ (.inl wb) uM).set _ (.inl wb) zS;have ds:(St.set (St.set PM u.nx (.cells [.bool false,V,J] 105 false)) u.nx (.cells [.bool false,V,zh] 105 false)).m.g u.nx=some (.cells [.bool (uD sm.n left).leaf,V,zh] 105 false):=an _ _ _;have ev:(St.set (St.set PM u.nx (.cells [.bool false,V,J] 105 false)) u.nx (.cells [.bool false,V,zh] 105 false)).nx=PM.nx:=rfl;generalize St.set (St.set PM u.nx (.cells [.bool false,V,J] 105 false)) u.nx (.cells [.bool false,V,zh] 105 false)=Uj at*
       have YZ:IsNode Uj π.W (.agg [.bool (uD sm.n left).leaf,V,zh]) (uD sm.n left):=
        ⟨V,zh,rfl,(PB.mono (QD.mono (by intro q hq;left;simp at hq;simp[hq]))).eH (by intro q hq;left;simp[hq]),(PA.mono (QD.mono (by intro q hq;left;simp at hq;simp[hq]))).eH (by intro q hq;left;simp[hq])⟩
       have WX:Kp (F1++(F2++[u.nx])) Uk Uj:=((ao.mono (by intro q hq;left;simp[hq])).trans OO (by intro q hq;left;simp[hq])).trans QD (by intro q hq;left;simp at hq;simp[hq])
       have ov:∀q∈F1++(F2++[u.nx]),st.nx<=q:=by
        intro q hq;simp at hq;rcases hq with hq|hq|hq
        .have:=uU q hq;omega
        .have:=tY q hq;omega
        .omega
       have ce:=ch.wV WX λb hb=>eF b (ov b hb);have dw:=(Ia.mono wb).trans QF afk;have bI:=dw.trans WX λq hq=>.inr (ov q hq);have dG:=Z.mono bI;have ax:∀s,aj .sub none true (I (((sm::E).length+1:Nat):Int)) (.int .i64 1) s=.ok (I ((E.length+1:Nat):Int)) s:=e3;obtain⟨Yw,Zt,Zr⟩:=dG.hi (m:=E.length+1) wb Uj
       have Sc:((sm::E).reverse++[f]).take (E.length+1)=E.reverse++[sm]:=by
        rw[aJk wb];simp
       rw[Sc]at Zr;rw[bD,hlen,af,ax,af,Zt,af];refine gI ds ?_;simp only[aIg]at jH hm AX;refine(ih E.length uM E rfl ce ed uM uM Zr YZ uM).mono ?_;rintro _ ej ⟨rfl,cM,G',cd,dX,px,Ms,cY⟩;exact⟨⟨afp,afp⟩,afp,rfl,bI.trans cM afk,G',cd,dX,px,by have:=xh (G.put pf (.node (dx first k j))) pn;have:=tQ G pf (.node (dx first k j));simp only[aIg];omega,adR⟩
      .rw[aHL Fp,aHM xI];have eF:∀b,st.nx<=b->b∉π.all/\b≠τ:=λb hb=>⟨λhh=>by have:=ht.pg.lt b hh;omega,λe=>adA⟩;obtain⟨i,HT,H⟩:=Sq J2 uM uM
       have Rn:cJ (dx first k j)<(dx first k j).cells.length:=by
        have:=H.lt;unfold cJ;cases gO:(dx first k j).leaf with
        |false=>simp;omega
        |true=>
         rw[aHP rfl];have hA:=H.neA;rcases H.eqs with⟨_,e,_⟩|⟨h,_⟩
         .rw[e]at hA
          have:0<i:=by
           rcases Nat.eq_zero_or_pos i with h0|h0
           .exact absurd (by show(dx first k j).cells.take i=[];rw[h0,aJG]) hA
           .exact h0
          omega
         .rw[gO]at h;cases h
       obtain⟨PY,YM,aY,YN⟩:=FF B O.ok jm H;have Cn:(yw (dx first k j)).2.1.length<=48:=by rw[H.key];exact(J2.cell _ (aIc ..)).key
       refine gI bn ?_;have dl:=Ia.fresh ht.fr;have d5:=Ia.nx;refine(SY dl (bX.eH wb) J2 uM Rn).mono ?_;rintro _ A ⟨xa,xb,rfl,a6,bd,bb⟩;generalize ff:yw (dx first k j)=cu at*;obtain⟨a,sp,b⟩:=cu;simp only at H bd bb PY YM aY YN Cn;have eu:=a6.nx;have XW:∀q∈π.W,q<Jw.nx:=λq hq=>by have:=rH q hq;omega
       obtain⟨ca,ka,rfl,aV,aR⟩:=bd π.W XW;obtain⟨cb,kb,rfl,aQ,aO⟩:=bb π.W XW;have b4:=aV.bL.2.1;have b3:=aR.bL.2.1;have b2:=aQ.bL.2.1;have b1:=aO.bL.2.1;have yy:(St.new A (.cells [.bool false,.ae,.ae] 105 false)).nx=A.nx+1:=rfl;rw[aD,af,aI,aD,af,aI,aI,aD,af,cz,aP,cz,aP,yy];have kA:Kp [] A (St.new (St.new A (.cells [.bool false,.ae,.ae] 105 false)) (.cells [.bool false,.ae,.ae] 105 false)):=((Kp.refl [] A).new _).new _;have ad:(St.new (St.new A (.cells [.bool false,.ae,.ae] 105 false)) (.cells [.bool false,.ae,.ae] 105 false)).m.g A.nx=some (.cells [.bool false,.ae,.ae] 105 false):=(aX _ _ _ wb).trans (au _ _);have ac:(St.new (St.new A (.cells [.bool false,.ae,.ae] 105 false)) (.cells [.bool false,.ae,.ae] 105 false)).m.g (A.nx+1)=some (.cells [.bool false,.ae,.ae] 105 false):=au (St.new A (.cells [.bool false,.ae,.ae] 105 false)) _;have nA:(St.new (St.new A (.cells [.bool false,.ae,.ae] 105 false)) (.cells [.bool false,.ae,.ae] 105 false)).nx=A.nx+2:=rfl;generalize St.new (St.new A (.cells [.bool false,.ae,.ae] 105 false)) (.cells [.bool false,.ae,.ae] 105 false)=YG at*;rw[aH,ad,aS,aT,Ks _ _ _ _ rfl];refine⟨⟨rfl,by simp[b4,b3],wb⟩,?_⟩;rw[aH,ak _ _ _ _ uM,ac,aS,aT,Ks _ _ _ _ rfl];refine⟨⟨rfl,by simp[b2,b1],wb⟩,?_⟩;have kB:Kp [] A (St.set (St.set YG A.nx (.cells [.bool a.leaf,ca,ka] 105 false)) (A.nx+1) (.cells [.bool b.leaf,cb,kb] 105 false)):=(kA.set _ (.inr (aHK _)) uM).set _ (.inr uM) zS;have c7:(St.set (St.set YG A.nx (.cells [.bool a.leaf,ca,ka] 105 false)) (A.nx+1) (.cells [.bool b.leaf,cb,kb] 105 false)).m.g A.nx=some (.cells [.bool a.leaf,ca,ka] 105 false):=(ak _ _ _ _ uM).trans (an _ _ _);have c6:(St.set (St.set YG A.nx (.cells [.bool a.leaf,ca,ka] 105 false)) (A.nx+1) (.cells [.bool b.leaf,cb,kb] 105 false)).m.g (A.nx+1)=some (.cells [.bool b.leaf,cb,kb] 105 false):=an _ _ _
       have nB:(St.set (St.set YG A.nx (.cells [.bool a.leaf,ca,ka] 105 false)) (A.nx+1) (.cells [.bool b.leaf,cb,kb] 105 false)).nx=A.nx+2:=nA;generalize St.set (St.set YG A.nx (.cells [.bool a.leaf,ca,ka] 105 false)) (A.nx+1) (.cells [.bool b.leaf,cb,kb] 105 false)=Te at*;have LY:=a6.trans kB wb;have bJ:=Ia.trans LY wb;have cc:=ht.still bJ;have bw:=(LY.keep u.nx uM wb).trans ay;have dI:IsNode Te π.W (.agg [.bool a.leaf,ca,ka]) a:=⟨ca,ka,rfl,aV.mono (kB.mono wb),aR.mono (kB.mono wb)⟩;have dJ:IsNode Te π.W (.agg [.bool b.leaf,cb,kb]) b:=⟨cb,kb,rfl,aQ.mono (kB.mono wb),aO.mono (kB.mono wb)⟩;obtain⟨cv,RE,aE⟩:=ym left pf B.QA Te (LY.mono wb);simp only[bD,af,bw,ar,aHI,aHG,aw,RE];refine aE _ ?_;refine gI c7 ?_;refine(om cc B.u1 (dI.eH wb) H.Nu H.szA).mono ?_;rintro _ PL ⟨rfl,Tj,b9⟩;have et:=Tj.nx;have e2:=bJ.nx;have bx:=(Tj.keep u.nx uM (U _ uM)).trans bw;have dg:=(Tj.keep (A.nx+1) uM (U _ uM)).trans c6;refine⟨⟨afp,afp,afp,afp⟩,afp,?_⟩;have WY:=(LY.mono wb).trans Tj afk;obtain⟨co,FZ,aJ⟩:=ym (left+1) pn B.US PL WY;simp only[e5,ag,aHH,aHV,af,bx,ar,aHI,aHG,aw,gJ left uM,FZ];refine aJ _ ?_;refine gI dg ?_;refine(om b9 aY ((dJ.mono Tj).eH wb) H.okB H.szB).mono ?_;rintro _ FP ⟨rfl,UY,b8⟩;have es:=UY.nx;have bB:=(UY.keep u.nx uM (U _ uM)).trans bx;have QE:=WY.trans UY afk;have dO:=b0.keep QE λb hb=>⟨TO,U b TO⟩;have dV:=YX.keep QE λb hb=>⟨Tc,U b Tc⟩;refine⟨⟨afp,afp,afp,afp⟩,afp,?_⟩;have mo:aZ [.str [],.str [],.int .i64 0,.int .i64 0] [(0,1,.str sp)] FP=.ok (.agg (bg (fO sp))) FP:=rfl;simp only[e5,ag,aHH,aHV,af,bB,ar,aHI,aHG,aw,mo];obtain⟨bc,rfl,xO,dh⟩:=mB dO uM (bQ _) uM
       have eU:=uU bc (by simp[xO])
       have bi:cV 4 (.slice bc 0 sm.n.cells.length sm.n.cells.length 4) (I left) FP=.ok (.ptr bc (left*4)) FP:=by
        have:=gp (size:=4) (off:=0) (cap:=sm.n.cells.length) (grow:=4) HL (.inr (aHK _)) FP (b:=bc)
        rwa [aHN]at this
       have ZY:bz (bM sm.n.cells) (left*4) (bg (fO sp))=bM (jM sm.n left sp).cells:=by
        unfold bM;rw[yq (fQ _) _ (by simpa using HL) _ rfl];unfold jM;rw[aKg,aHP (by simpa using HL)];simp[aJI,aJs]
       unfold Hw;rw[bi,af,aH,dh,aS,aT,ZY];refine⟨⟨rfl,rfl,acF⟩,?_⟩;have ab:Kp [bc] FP (St.set FP bc (.cells (bM (jM sm.n left sp).cells) 109 true)):=(Kp.refl _ FP).set _ (.inl wb) uM;have di:(St.set FP bc (.cells (bM (jM sm.n left sp).cells) 109 true)).m.g bc=some (.cells (bM (jM sm.n left sp).cells) 109 true):=an _ _ _;have er:(St.set FP bc (.cells (bM (jM sm.n left sp).cells) 109 true)).nx=FP.nx:=rfl;generalize St.set FP bc (.cells (bM (jM sm.n left sp).cells) 109 true)=Ui at*;have dt:Ui.m.g u.nx=some (.cells [.bool (jM sm.n left sp).leaf,.slice bc 0 sm.n.cells.length sm.n.cells.length 4,J] 105 false):=(ab.keep u.nx uM zS).trans bB;have ecl:(jM sm.n left sp).cells.length=sm.n.cells.length:=by unfold jM;simp;omega
       have dW:=dV.keep ab λb hb=>⟨Tc,by have:=tY b hb;simp;omega⟩
       have YY:IsNode Ui π.W (.agg [.bool (jM sm.n left sp).leaf,.slice bc 0 sm.n.cells.length sm.n.cells.length 4,J]) (jM sm.n left sp):=
        ⟨_,_,rfl,.inr ⟨bc,0,_,_,4,rfl,by rw[bQ,ecl],⟨aHK _,.inr rfl⟩,.inr ⟨U _ uM,uM,_,_,_,di,adL,by rw[aIn,aHS adL]⟩⟩,dW.sl λb hb=>⟨U b Tc,Tc⟩⟩
       have b7:=b8.wV ab λb hb=>eF b (by simp at hb;omega);have dy:=(Ia.mono wb).trans QE afk;have bN:=dy.trans ab λq hq=>.inr acV;have dH:=Z.mono bN;have ax:∀s,aj .sub none true (I (((sm::E).length+1:Nat):Int)) (.int .i64 1) s=.ok (I ((E.length+1:Nat):Int)) s:=e3;obtain⟨Yw,Zt,Zr⟩:=dH.hi (m:=E.length+1) wb Ui
       have Sc:((sm::E).reverse++[f]).take (E.length+1)=E.reverse++[sm]:=by
        rw[aJk wb];simp
       rw[Sc]at Zr;simp only[hlen,af,ax,Zt];refine gI dt ?_;simp only[aIg]at jH hm AX;refine(ih E.length uM E rfl b7 PY uM uM Zr YY uM).mono ?_;rintro _ ei ⟨rfl,cK,G',b6,dY,px,Ms,cY⟩;exact⟨⟨afp,afp⟩,afp,rfl,bN.trans cK afk,G',b6,dY,px,by have:=tQ (G.put pf (.node a)) pn (.node b);have:=tQ G pf (.node a);simp only[aIg];omega,adR⟩
def MD {a:List db}{f:db}{n:bo}{h:Nat}{x v:CV}{d:List aW}(i:Tg τ π st G)(j:CD G h f.page a n d)(b:n.size<=640)(e:a.length+2<=G.cD)
 (c:fR st π.W x (a.reverse++[f])) (g:IsNode st π.W v n) (k:a.length<=16):R 52 [.ptr τ 0,x,v] st (DL τ π G d (G.ef.length+(2*a.length+3)) (a.length+2) st):=Sk a.length a rfl i j b e c g k
end
