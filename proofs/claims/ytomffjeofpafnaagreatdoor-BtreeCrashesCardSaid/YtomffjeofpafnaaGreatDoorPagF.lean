import Derived.Test.YtomffjeofpafnaaGreatDoorPagE
namespace Lim
open Go
noncomputable section
set_option linter.defProp false
set_option maxRecDepth 100000
def GM0 (aE:Nat):GM:=⟨aE,1,0,[],λ_=>.blank⟩
def cZ:iA:=⟨0,1,0,0⟩
def P0z:Nat->Piece:=λ_=>⟨0,false,[]⟩
def Z7 (j:Nat):(P0z j).ok:=⟨by show 0<=_;omega,by show 0<=_;omega,λ_=>⟨rfl,rfl⟩,λh=>absurd rfl h⟩
def Mr {D D':aP}(Cj:64<=D.ao.length)(Zw:D.ao.length<=65536)(hz:∀i,i<D.ao.length->D.cur i=lE)(hc:Calm D')(hw:D'.waits=[])(hl:D'.ao.length=D.ao.length)
 (tO:∀j,D'.cur j=if j=0 then cU 0 else if j=1+D.ao.length/4 then bL cZ else D.cur j):iK D' (GM0 (D.ao.length-1-D.ao.length/4)) 0 0 P0z [] cZ:=by
 have VB:(ki (1+D.ao.length/4) (D.ao.length-1-D.ao.length/4) [] cZ []).get D' 0=bL cZ:=by
  rw[gp,tO,aDv pX,aDy pX];rfl
 refine⟨hc,hw,pX,pX,by rw[tO,aDy rfl],λj hj=>?_,rfl,λj _=>aDt _,pX,rq,rq,?_,by rw[hl];exact VB,wI⟩
 .rw[hl]at hj;rw[tO,aDv pX,aDv pX,hz _ pX];exact⟨Sw,Z7 j⟩
 .rw[hl];refine⟨rfl,rfl,rfl,rfl,rfl,λn=>Iff.rfl,aFS,⟨aDt _,?_,?_,aFS,λn hn=>by cases hn⟩,?_,λn hn=>?_,λn hn=>?_,adu,rfl,aFS,λn hn=>by cases hn⟩
  .show 1<=D.ao.length-1-D.ao.length/4;omega
  .show D.ao.length-1-D.ao.length/4<=65536;omega
  .show 1+D.ao.length/4+(D.ao.length-1-D.ao.length/4)<=D'.ao.length;omega
  .have hn:n<1:=hn;have:n=0:=by omega
   subst this;show((ki _ _ [] cZ []).get D' 0).length=512;rw[VB];exact gP _
  .have h1:=hn.1;have h2:n<1:=hn.2.1;omega
def abM (aE:Nat)(h:1<=aE)(h2:aE<=65536):gK (GM0 aE) []:=⟨⟨aDt _,h,h2,aFS,λn hn=>by cases hn⟩,.inl ⟨rfl,rfl⟩⟩
section
variable {st st':St} {a:Nat} {F:List Nat} {D:aP}
def Ms (hd:cG st a F D)(iw:eM st)(hc:Calm D)(eS:D.set=false)(hw:D.waits=[])(Cj:64<=D.ao.length)(hz:∀i,i<D.ao.length->D.cur i=lE):R 42 [.ptr a 0] st (yI a F D (GM0 (D.ao.length-1-D.ao.length/4)) 0 st):=by
 refine bN ?_;rw[w42];have Zw:=(show D.ao.length<=65536 from by obtain⟨_,_,_,_,_,_,_,h⟩:=hd;exact h.size);rw[c8,af,ag,aDv wI];refine(wY hd).same ?_;have hlt:ai .lss none true (I D.ao.length) (.int .i64 64) st=.ok (.bool false) st:=WO
 rw[hlt,af,ag,aDv wI];refine(JZ hd pX).mono ?_;rintro _ s2 ⟨k2,p,bd,bn,bi,bc,rfl,hP2,jW⟩;have AN:=hd.keep k2 rq;have n2:=k2.nx;rw[cK];refine(pC AN).same ?_;simp only[aH,aI];refine bK (λfu vs s=>∃i,fu+i=D.ao.length/4/\vs=[.ptr a 0,.ptr p 0,I ((D.ao.length/4:Nat):Int),I i]/\Kp [] s2 s) ?_ (n:=D.ao.length/4) ⟨0,rfl,rfl,Kp.refl _ _⟩;rintro fu vs s k ⟨i,hi,rfl,hk⟩ next;simp only[aH,aI];rw[dq,af,ag];have hds:=AN.keep hk rq;have xY:=hP2.keep hk rq;have TM:=hk.fresh (k2.fresh iw);have e2:∀s,ai .neq (some .int) true (I 0) (.int .i64 0) s=.ok (.bool false) s:=λs=>rfl
 by_cases Ac:i<D.ao.length/4
 .rw[aDz Ac,aDy rfl]
  have e1:ai .add none true (.int .i64 1) (I i) s=.ok (I ((1+i:Nat):Int)) s:=by
   have:ai .add none true (I ((1:Nat):Int)) (I i) s=.ok (I ((1+i:Nat):Int)) s:=Sa
   exact this
  rw[e1,af]
  have Yr:D.read ((1+i:Nat):Int)=(0,lE):=by
   have:=hc.read (i:=1+i) pX;rw[hz _ pX]at this;exact this
  refine(yv hds ((1+i:Nat):Int)).mono ?_;intro v s5 hv;rw[Yr,aDy rfl]at hv;obtain⟨k5,_,b,rfl,gb,KB,HH⟩:=hv;rw[aD,af,aG,aD,af,e2,af,ag,aDv wI];have sl5:Sl s5 [] (.slice b 0 512 512 1) 1 (aj lE):=.inr ⟨b,0,512,512,1,rfl,by simp[pA],⟨aDt _,.inr rfl⟩,.inr ⟨rq,HH,_,_,_,gb,by simp[pA],by rw[aDX,aDA (by simp[pA])]⟩⟩;have Pz:bj .slice (.slice b 0 512 512 1) s5=.ok (I ((512:Nat):Int)) s5:=rfl;rw[Pz,af];have TC:=FB (n:=512) (s:=s5) pX;rw[TC,aT];have k6:Kp [] s5 (St.new s5 (.cells (aj (List.replicate 512 0)) 5 false)):=(Kp.refl [] s5).new _;have g6:(St.new s5 (.cells (aj (List.replicate 512 0)) 5 false)).m.g s5.nx=some (.cells (aj (List.replicate 512 0)) 5 false):=aw _ _;have n6:(St.new s5 (.cells (aj (List.replicate 512 0)) 5 false)).nx=s5.nx+1:=rfl;generalize St.new s5 (.cells (aj (List.replicate 512 0)) 5 false)=s6 at*;have sl6:Sl s6 [] (.slice s5.nx 0 512 512 0) 1 (aj (List.replicate 512 0)):=.inr ⟨s5.nx,0,512,512,0,rfl,rq,⟨aDt _,.inl rfl⟩,.inr ⟨rq,pX,_,_,_,g6,rq,by rw[aDX,aDA rq]⟩⟩;refine(Qv (sl5.mono k6) sl6).same ?_;have hbq:(lE==List.replicate 512 0)=true:=beq_self_eq_true _;rw[hbq,cN,af,aDJ,ag,aDv wI,gT i pX,af];exact next (fu-1) _ _ pX ⟨i+1,pX,rfl,(hk.trans k5 rq).trans k6 rq⟩
 .rw[aDr Ac,aDv wI];have mR:bu [.int .i64 0,.int .i64 0,.int .i64 0,.int .i64 0] [(1,1,.int .i64 1)] s=.ok (.agg [I cZ.root,I cZ.used,I cZ.head,I cZ.free]) s:=rfl;rw[mR,af];have Cd:=xY.main;have hp0:=xY.lt p rq
  have Kk:∀{s:St} {l:List CV} {o:Nat} {K:St->Prop},s.m.g p=some (.cells l 158 false)->o+4<=l.length->K (St.set s p (.cells (bo l o [I cZ.root,I cZ.used,I cZ.head,I cZ.free]) 158 false))->lD 4 o (.ptr p 0) (.agg [I cZ.root,I cZ.used,I cZ.head,I cZ.free]) s K:=by
   intro s l o K hg h3 hK;simp only[lD,br,ah,af,aF,hg,aS,aV,aDx];exact⟨⟨rfl,rfl,h3⟩,hK⟩
  have VE:∀{s:St} {l:List CV} {K:CV->Prop},s.m.g p=some (.cells l 158 false)->10<=l.length->(l.drop 6).take 4=[I cZ.root,I cZ.used,I cZ.head,I cZ.free]->K (.agg [I cZ.root,I cZ.used,I cZ.head,I cZ.free])->Ah 4 6 (.ptr p 0) s K:=by
   intro s l K hg h3 h4 hK;unfold Ah;rw[br,af,ah,af,gM (n:=4) hg pX,af,aDx,h4];exact hK
  refine Kk Cd rq ?_;refine VE (aq _ _ _) (by simp[bo]) rfl ?_;refine Kk (aq _ _ _) (by simp[bo]) ?_;rw[set_set];refine VE (aq _ _ _) (by simp[bo]) rfl ?_;have rk:=xY.nd;simp only[aDG,aDs,aEe,aEW,aEM]at rk
  have yl:cC (St.set s p (.cells (bo (bo [.ptr a 0,.bk,I (eo D.ao.length).first,I (eo D.ao.length).aE,.map bd,.map bn,I (eo D.ao.length).kept.root,I (eo D.ao.length).kept.used,I (eo D.ao.length).kept.head,I (eo D.ao.length).kept.free,I (eo D.ao.length).m.root,I (eo D.ao.length).m.used,I (eo D.ao.length).m.head,I (eo D.ao.length).m.free,.map bi,.map bc] 6 [I cZ.root,I cZ.used,I cZ.head,I cZ.free]) 10 [I cZ.root,I cZ.used,I cZ.head,I cZ.free]) 158 false)) p a .bk {eo D.ao.length with kept:=cZ,m:=cZ} bd bn bi bc:=
   ⟨aq _ _ _,xY.dirty.mono (al _ _ _ _ (aEr rk.1.1)),xY.now.mono (al _ _ _ _ (aEr rk.1.2.1)),xY.idle.mono (al _ _ _ _ (aEr rk.1.2.2.1)),xY.count.mono (al _ _ _ _ (aEr rk.1.2.2.2)),xY.nd,xY.lt,⟨rfl,rfl,rfl⟩⟩
  have rh:Kp [p] s (St.set s p (.cells (bo (bo [.ptr a 0,.bk,I (eo D.ao.length).first,I (eo D.ao.length).aE,.map bd,.map bn,I (eo D.ao.length).kept.root,I (eo D.ao.length).kept.used,I (eo D.ao.length).kept.head,I (eo D.ao.length).kept.free,I (eo D.ao.length).m.root,I (eo D.ao.length).m.used,I (eo D.ao.length).m.head,I (eo D.ao.length).m.free,.map bi,.map bc] 6 [I cZ.root,I cZ.used,I cZ.head,I cZ.free]) 10 [I cZ.root,I cZ.used,I cZ.head,I cZ.free]) 158 false)):=(Kp.refl _ s).set _ (.inl rq) hp0;generalize St.set s p (.cells (bo (bo [.ptr a 0,.bk,I (eo D.ao.length).first,I (eo D.ao.length).aE,.map bd,.map bn,I (eo D.ao.length).kept.root,I (eo D.ao.length).kept.used,I (eo D.ao.length).kept.head,I (eo D.ao.length).kept.free,I (eo D.ao.length).m.root,I (eo D.ao.length).m.used,I (eo D.ao.length).m.head,I (eo D.ao.length).m.free,.map bi,.map bc] 6 [I cZ.root,I cZ.used,I cZ.head,I cZ.free]) 10 [I cZ.root,I cZ.used,I cZ.head,I cZ.free]) 158 false)=c9 at*;have wa:=hd.lt;have amJ:=jW p rq;have Y9:=hds.keep rh λb hb hh=>by have:=wa b hb;simp at hh;omega
  have qA:=hk.nx;have anc:=rh.nx;refine(DB (m:=cZ) (by intro n hn;simp[lU,cZ]at hn;rcases hn with rfl|rfl|rfl|rfl<;>omega)).mono ?_;rintro _ bY ⟨rfl,rm⟩;have HE:=gP cZ;have AO:(aj (bL cZ)).length=512:=by simpa using HE
  refine lJ AO (bC _) ?_;have zK:=rm.page (aj (bL cZ));have Nd:(St.set (St.new bY (.cells (zr 512) 173 false)) bY.nx (.cells (aj (bL cZ)) 173 false)).m.g bY.nx=some (.cells (aj (bL cZ)) 173 false):=aq _ _ _;have n14:(St.set (St.new bY (.cells (zr 512) 173 false)) bY.nx (.cells (aj (bL cZ)) 173 false)).nx=bY.nx+1:=rfl;generalize St.set (St.new bY (.cells (zr 512) 173 false)) bY.nx (.cells (aj (bL cZ)) 173 false)=fj at*;have TZ:=yl.keep zK rq;have Y8:=Y9.keep zK rq;have YI:=TZ.main;have VD:=zK.fresh (rh.fresh TM);have AL:bR 512 1 (.ptr bY.nx 0) none none fj=.ok (.slice bY.nx 0 512 512 0) fj:=rfl;rw[bA,br,af,ah,af,aC,YI,ar];simp only[aDx,aDq,aDo,az,AL,af];have MW:=rm.nx;have Yg:Sl fj F (.slice bY.nx 0 512 512 0) 1 (aj (bL cZ)):=.inr ⟨bY.nx,0,512,512,0,rfl,by simp[HE],⟨aDt _,.inl rfl⟩,.inr ⟨λhh=>by have:=wa _ hh;omega,pX,_,_,_,Nd,pX,Wu⟩⟩;refine(vi Y8 (i:=((1+D.ao.length/4:Nat):Int)) VD (by rw[hw];simp) Yg HE).mono ?_;rintro _ iT ⟨rfl,py,F2,Jc,vd⟩;obtain⟨w1,w2,w3,w4,w5,w6,w7⟩:=(hc.write (i:=1+D.ao.length/4) (s:=bL cZ) pX HE abt).resolve_right λh=>by rw[eS]at h;exact absurd h.2.1 wI
  rw[eS]at w7;generalize hD1:(D.write ((1+D.ao.length/4:Nat):Int) (bL cZ)).2=D1 at*;rw[w1];refine⟨⟨adu,adu⟩,adu,?_⟩;rw[e2,af,ag,aDv wI];refine(wc Jc (by rw[w5,hw];simp)).mono ?_;rintro _ cO ⟨rfl,FY,F3,aow,yn⟩;obtain⟨f1,f2,f3,f4,f5,f6⟩:=(w2.flush w4).resolve_right λh=>by rw[w7]at h;exact absurd h.2.1 wI
  rw[w7]at f6;generalize hD2:D1.flush.2=D2 at*;rw[f1,e2,af,ag,aDv wI];have VC:=FY.fresh (py.fresh VD);refine(Kx VC aow (by rw[f4];simp) (base:=0) pX).mono ?_;rintro _ lp ⟨rfl,Er,F4,TT,Qa⟩;obtain⟨g1,g2,g3,g4,g5,g6⟩:=(f2.head f4 (by rw[f3,w3];omega) 0).resolve_right λh=>by rw[f6]at h;exact absurd h.2.1 wI
  rw[f6]at g6;generalize hD3:(D2.head 0).2=D3 at*;rw[g1,e2,af,ag,aDv wI];have Me:D3.ao.length=D.ao.length:=by rw[g3,f3,w3]
  have tO:∀j,D3.cur j=if j=0 then cU 0 else if j=1+D.ao.length/4 then bL cZ else D.cur j:=λj=>by
   rw[g5]
   by_cases hj:j=0
   .rw[aDy hj,aDy hj]
   .rw[aDv hj,aDv hj,f5,w6]
  have oX:=Mr Cj Zw hz g2 g4 Me tO;refine(pC TT).same ?_;have aeM:=Er.fresh VC;have hRd:sJ D3 ⟨1,D3.ao.length/4,0,0,0⟩ P0z:=⟨by show 0<D3.ao.length/4;omega,by show 1+D3.ao.length/4<=_;omega,pX,aFH _,λj hj=>oX.j7 j hj⟩;refine(zf (base:=0) aeM TT g2.dead hRd pX).mono ?_;rintro _ sS ⟨r,xo,Fo,Gg,rfl,k19,kj,ui,hFo,hr⟩;have n15:=py.nx;have n16:=FY.nx;have n17:=Er.nx;have n19:=k19.nx;have awT:=zK.nx
  have VZ:∀b∈F4,b∈F\/fj.nx<=b:=λb hb=>by
   rcases Qa b hb with h1|h1
   .rcases yn b h1 with h2|h2
    .exact vd b h2
    .right;omega
   .right;omega
  have afF:∀b∈F3,b∈F\/fj.nx<=b:=λb hb=>by
   rcases yn b hb with h2|h2
   .exact vd b h2
   .right;omega
  have xe:=hP2.lt
  have DO:∀(X:List Nat),(∀b∈X,b∈F\/fj.nx<=b)->∀b∈[p,bd,bn,bi,bc],b∉X:=λX hX b hb hh=>by
   have h1:=xe b hb;have h2:=jW b hb;rcases hX b hh with h3|h3
   .have:=wa b h3;omega
   .omega
  have GH:=(((TZ.keep py (DO F adt)).keep FY (DO F2 vd)).keep Er (DO F3 afF)).keep k19 rq;have aov:=TT.keep k19 rq;rw[aD,af,aG,aD,af,aG,aG,aD,af,e2,af,ag,aDv wI];have anj:=GH.main;have amO:=GH.lt p rq;simp only[lD,br,ah,af,aDx];rw[aF,anj,aS];refine⟨⟨rfl,rfl,rq⟩,?_⟩;have IP:∀T,Kp [p] sS (St.set sS p (.cells T 158 false)):=λT=>(Kp.refl _ sS).set _ (.inl rq) amO;have h1p:=xe p rq;have h1d:=xe bd rq;have h1n:=xe bn rq;have h1i:=xe bi rq;have h1c:=xe bc rq;have apk:=TT.lt;have zU:=oX.rep;rw[Me]at zU;refine⟨⟨p,a,.ptr r 0,bd,bn,bi,bc,F4,D3,[],cZ,1+D.ao.length/4⟩,rfl,rfl,⟨{eo D.ao.length with kept:=cZ,m:=cZ},⟨aq _ _ _,GH.dirty.mono (al _ _ _ _ (aEr rk.1.1)),GH.now.mono (al _ _ _ _ (aEr rk.1.2.1)),GH.idle.mono (al _ _ _ _ (aEr rk.1.2.2.1)),GH.count.mono (al _ _ _ _ (aEr rk.1.2.2.2)),GH.nd,GH.lt,⟨rfl,rfl,rfl⟩⟩,zU,aov.keep (IP _) λb hb hh=>?_,g2.dead,λb hb hh=>?_,rfl,rfl,rfl⟩,⟨⟨0,0,P0z,[],r,oX,aDt _,rfl,?_,?_,λn=>rfl⟩,by show 1+D.ao.length/4=1+D3.ao.length/4;rw[Me],rq,rq⟩,?_,?_,by show st.nx<=p;omega,g2,Me,⟨r,rfl,pX⟩,g6.trans eS.symm⟩
  .exact DO F4 VZ p rq (by have:b=p:=by simpa using hh
                           rw[<-this];exact hb)
  .exact DO F4 VZ b hh hb
  .have:=(oX.opened).2;rw[this]at kj;exact kj.keep (IP _) AI
  .unfold PI.all;simp only[aDs,aEM];exact⟨pX,pX,pX,pX,pX,λhh=>by have:=apk r hh;omega⟩
  .have q0:Kp F st s:=(k2.trans hk rq).mono rq;have q1:=(q0.trans rh (by intro q hq;right;simp at hq;omega)).trans zK rq;have q2:=q1.trans py adt;have q3:=q2.trans FY λq hq=>(vd q hq).imp id λh=>by omega
   have q4:=q3.trans Er λq hq=>(afF q hq).imp id λh=>pX
   exact(q4.trans k19 rq).trans (IP _) (by intro q hq;right;simp at hq;omega)
  .intro b hb;unfold PI.all at hb;simp only[aDs]at hb;have h2d:=jW bd rq;have h2n:=jW bn rq;have h2i:=jW bi rq;have h2c:=jW bc rq;rcases hb with hb|hb|hb|hb|hb|hb
   .right;omega
   .right;omega
   .right;omega
   .right;omega
   .right;omega
   .rcases VZ b hb with h1|h1
    .left;exact h1
    .right;omega
end
def aP.EC (D:aP)(L:List (Nat×iJ))(w:Nat×iJ):D.writes (L++[w])=if (D.writes L).1=0 then (if ((D.writes L).2.write w.1 w.2).1=0 then (0,((D.writes L).2.write w.1 w.2).2)else (D.writes L).2.write w.1 w.2)else D.writes L:=by
 induction L generalizing D with
 |nil=>rfl
 |cons v L ih=>
  have e:∀R,D.writes (v::R)=if (D.write v.1 v.2).1=0 then (D.write v.1 v.2).2.writes R else D.write v.1 v.2:=λR=>rfl
  by_cases hv:(D.write v.1 v.2).1=0
  .have e1:D.writes (v::L)=(D.write v.1 v.2).2.writes L:=by rw[e,aDy hv]
   have e2:D.writes (v::L++[w])=(D.write v.1 v.2).2.writes (L++[w]):=by rw[aEp,e,aDy hv]
   rw[e2,e1];exact ih _
  .have e1:D.writes (v::L)=D.write v.1 v.2:=by rw[e,aDv hv]
   have e2:D.writes (v::L++[w])=D.write v.1 v.2:=by rw[aEp,e,aDv hv]
   rw[e2,e1,aDv hv]
def j8 (count base last top:Nat)(rec:List UInt8)(k:Nat):List (Nat×iJ):=(List.range k).map (RingM.rf ⟨1,count,base,last,top⟩ rec)
def LD {count base last top:Nat}{rec:List UInt8}{k:Nat}{w:Nat×iJ}(h:w∈j8 count base last top rec k):∃i,i<k/\w=(1+(last+1+i)%count,(cB rec last (aY rec.length) i).bT):=by
 unfold j8 at h;obtain⟨i,hi,rfl⟩:=aDR.1 h;exact⟨i,List.mem_range.1 hi,rfl⟩
structure Rb (D D':aP)(count:Nat)(P':Nat->Piece)(W:List (Nat×iJ)):Prop where
 calm:Calm D'
 BY:D'.BY
 ao:D'.ao=D.ao
 waits:D'.waits=D.waits++W
 log:∀j,j<count->D'.cur (1+j)=(P' j).bT/\(P' j).ok
 zero:D'.cur 0=D.cur 0
 rest:∀j,1+count<=j->D'.cur j=D.cur j
 set:D'.set=D.set
def Fl {rec:List UInt8}{last i:Nat}(hi:i<aY rec.length)(hl:last<=1000000000)(hp:aY rec.length<=1000000):(cB rec last (aY rec.length) i).ok/\(cB rec last (aY rec.length) i).bT.length=512:=by
 have hlen:(cB rec last (aY rec.length) i).data.length<=501:=aba
 refine⟨⟨aba,hlen,λh=>absurd h (by unfold cB;simp),λ_ h=>?_⟩,Piece.qf _ hlen⟩;have gq:¬i+1=aY rec.length:=by unfold cB at h;simpa using h
 have h2:=Fm (len:=rec.length) (i:=i+1) pX;unfold cB;simp;omega
def KW {D:aP}{count base last top:Nat}{P:Nat->Piece}{rec:List UInt8}(hc:Calm D)(hw:D.BY)(h0:0<count)(Mh:1+count<=D.ao.length)(ant:∀j,j<count->D.cur (1+j)=(P j).bT/\(P j).ok)(hl:last<=1000000000)(hp:aY rec.length<=1000000):
 ∀k,k<=aY rec.length->((D.writes (j8 count base last top rec k)).1=0/\Rb D (D.writes (j8 count base last top rec k)).2 count (vC P count rec last k) (j8 count base last top rec k))\/((D.writes (j8 count base last top rec k)).1=20/\D.set=true/\kI D.ao (D.waits++j8 count base last top rec k) (D.writes (j8 count base last top rec k)).2):=by
 intro k
 induction k with
 |zero=>intro _;exact .inl ⟨rfl,hc,hw,rfl,by simp[j8,aP.writes],ant,rfl,λ_ _=>rfl,rfl⟩
 |succ k ih=>
  intro hk;obtain⟨p1,p2⟩:=Fl (rec:=rec) (last:=last) (i:=k) pX hl hp;have TB:(last+1+k)%count<count:=aFM _ h0
  have eL:j8 count base last top rec (k+1)=j8 count base last top rec k++[(1+(last+1+k)%count,(cB rec last (aY rec.length) k).bT)]:=by
   unfold j8;rw[List.range_succ,aEC,aEc,List.map_nil];rfl
  rw[eL,D.EC];rcases ih (by omega)with⟨i1,i2⟩|⟨i1,i2,i3⟩
  .rw[aDy i1];have hlen:1+(last+1+k)%count<(D.writes (j8 count base last top rec k)).2.ao.length:=by rw[i2.ao];omega
   rcases i2.calm.write (i:=1+(last+1+k)%count) (s:=(cB rec last (aY rec.length) k).bT) hlen p2 i2.BY with⟨a1,a2,a3,a4,a5,a6,a7⟩|⟨a1,a2,a3⟩
   .rw[aDy a1];refine .inl ⟨rfl,a2,a4,by show aP.ao _=_;rw[a3];exact i2.ao,by show aP.waits _=_;rw[a5,i2.waits,aDY],λj hj=>?_,?_,λj hj=>?_,by show aP.set _=_;rw[a7];exact i2.set⟩
    .show aP.cur _ (1+j)=_/\_;rw[a6];simp only[vC]
     by_cases h:j=(last+1+k)%count
     .rw[aDy pX,aDy h];exact⟨rfl,p1⟩
     .rw[aDv pX,aDv h];exact i2.log j hj
    .show aP.cur _ 0=_;rw[a6,aDv pX];exact i2.zero
    .show aP.cur _ j=_;rw[a6,aDv pX];exact i2.rest j hj
   .have gq:¬((D.writes (j8 count base last top rec k)).2.write ((1+(last+1+k)%count:Nat):Int) (cB rec last (aY rec.length) k).bT).1=0:=by rw[a1];decide
    rw[aDv gq];rw[i2.set]at a2;rw[i2.ao,i2.waits]at a3;exact .inr ⟨a1,a2,a3.more λw hw=>by rw[aDY]at hw;exact hw⟩
  .rw[aDv (by rw[i1];decide)]
   exact .inr ⟨i1,i2,i3.more λw hw=>by
    rcases aDB.1 hw with h|h
    .exact aEV _ h
    .exact aFt _ (aEV _ h)⟩
def rj.ZU {M M':bQ}{D D':aP}{G:GM}(h:rj M D G)(hg:∀n,0<n->n<M.aE->M'.get D' n=M.get D n)(h0:(M'.get D' 0).length=512)(h1:M'.aE=M.aE)(h2:M'.m=M.m)(h3:M'.idle=G.fr)(h4:M'.now=[])(h5:M'.count=[])(h6:M'.first=M.first)(h7:D'.ao.length=D.ao.length):rj M' D' G:=by
 have hm:=h.ok.iv;refine⟨h1.trans h.aE,by rw[h2];exact h.used,by rw[h2];exact h.root,by rw[h2];exact h.head,by rw[h2];exact h.free,λn=>by rw[h3],by rw[h3];exact h.ok.nd,h.ok,by rw[h6,h1,h7];exact h.fits,λn hn=>?_,λn hn=>?_,?_,by rw[h4,h5];rfl,by rw[h5];exact aFS,by rw[h5];intro n hn;cases hn⟩
 .by_cases hz:n=0
  .rw[hz];exact h0
  .rw[hg n pX (by rw[h.aE];omega)];exact h.len n hn
 .rw[hg n hn.1 (by rw[h.aE];have:=hn.2.1;omega)];exact h.cont n hn
 .have key:∀l:List Nat,(∀n∈l,0<n/\n<M.aE)->Ni M D l->Ni M' D' l:=by
   intro l
   induction l with
   |nil=>intro _ _;trivial
   |cons n r ih=>intro h1 h2;exact⟨(hg n (h1 n rq).1 (h1 n rq).2).trans h2.1,ih (λm hm=>h1 m (by simp[hm])) h2.2⟩
  exact key _ (λn hn=>⟨(h.ok.fr n hn).1,by rw[h.aE];have:=(h.ok.fr n hn).2;omega⟩) h.chain
def BG:∀(l d:List dN) (n:Nat),(l.map (·.1)).Nodup->cX (rf d l) n=(cX l n).or (cX d n):=by
 intro l
 induction l with
 |nil=>intro d n _;rfl
 |cons e l ih=>
  intro d n hn;rw[aEc,aDG]at hn;show cX (rf (gW d e.1 e.2) l) n=_;rw[ih _ n hn.2,pD];simp only[cX]
  by_cases h:n=e.1
  .subst h;rw[aDy rfl,aDy rfl,l7.2 hn.1];rfl
  .rw[aDv h,aDv h]
section
variable {D D':aP} {G Gk:GM} {base last:Nat} {P:Nat->Piece} {Ls:List (List dN)} {kept:iA} {M:bQ} {l:List dN}
structure wB (D:aP)(G:GM)(M:bQ)(l:List dN)(Ls:List (List dN)):Prop where
 rep:rj M D G
 first:M.first=1+D.ao.length/4
 aE:M.aE=D.ao.length-1-D.ao.length/4
 dir:∀n,cX M.dirty n=cX (cM [] Ls) n
 nd:(l.map (·.1)).Nodup
 get:∀n,cX l n=if n=0 then some (bL M.m)else cX M.now n
 ph:∀e∈l,e.1<M.aE/\e.2.length=512
 small:(dJ l).length<=1000000
 root:M.m.root<2147483648
def wB.acn (h:wB D G M l Ls)(hlen:D'.ao.length=D.ao.length)(hr:∀j,1+D.ao.length/4<=j->D'.cur j=D.cur j):
 rj (ki (1+D.ao.length/4) (D.ao.length-1-D.ao.length/4) (cM [] (Ls++[l])) M.m G.fr) D' G/\(ki (1+D.ao.length/4) (D.ao.length-1-D.ao.length/4) (cM [] (Ls++[l])) M.m G.fr).get D' 0=bL M.m:=by
 have hg:∀n,(ki (1+D.ao.length/4) (D.ao.length-1-D.ao.length/4) (cM [] (Ls++[l])) M.m G.fr).get D' n=if n=0 then bL M.m else M.get D n:=λn=>by
  rw[gp,qi,BG l _ n h.nd,h.get]
  by_cases hn:n=0
  .rw[aDy hn,aDy hn];rfl
  .rw[aDv hn,aDv hn,hr _ pX,<-h.dir];unfold bQ.get;rw[h.first];cases cX M.now n with
   |some s=>rfl
   |none=>cases cX M.dirty n<;>rfl
 exact⟨h.rep.ZU (λn h1 h2=>by rw[hg,aDv pX]) (by rw[hg,aDy rfl];exact gP _) h.aE.symm rfl rfl rfl rfl h.first.symm hlen,by rw[hg,aDy rfl]⟩
def wB.Wb (h:wB D G M l Ls)(he:∀l∈Ls,∀e∈l,e.1<D.ao.length-1-D.ao.length/4/\e.2.length=512):∀l'∈Ls++[l],∀e∈l',e.1<D.ao.length-1-D.ao.length/4/\e.2.length=512:=λl' Cf e M9=>by
 rcases aDB.1 Cf with h1|h1
 .exact he l' h1 e M9
 .have:l'=l:=by simpa using h1
  subst this;have:=h.ph e M9;have:=h.aE;omega
def wB.NY (h:wB D G M l Ls)(hs:∀l∈Ls,(dJ l).length<=1000000):∀l'∈Ls++[l],(dJ l').length<=1000000:=λl' Cf=>by
 rcases aDB.1 Cf with h1|h1
 .exact hs l' h1
 .have:l'=l:=by simpa using h1
  rw[this];exact h.small
def iK.ZV (h:iK D Gk base last P Ls kept)(hc:wB D G M l Ls)(pN:aY (dJ l).length+(last-base)<=D.ao.length/4){W:List (Nat×iJ)}
 (ug:Rb D D' (D.ao.length/4) (vC P (D.ao.length/4) (dJ l) last (aY (dJ l).length)) W) (h0:D'.flush.1=0):iK D'.flush.2 G base (last+aY (dJ l).length) (vC P (D.ao.length/4) (dJ l) last (aY (dJ l).length)) (Ls++[l]) M.m:=by
 obtain⟨f1,f2,f3,f4,f5,_⟩:=(ug.calm.flush ug.BY).resolve_right λh=>by rw[h0]at h;exact absurd h.1 wI
 have hlen:=f3.trans (congrArg List.length ug.ao);have Cj:=h.least;obtain⟨r1,r2⟩:=hc.acn hlen λj hj=>(f5 j).trans (ug.rest j hj);refine⟨f2,f4,by rw[hlen];exact h.least,by rw[hlen];exact h.iv,by rw[f5,ug.zero];exact h.head,λj hj=>?_,?_,λj hj=>?_,by rw[hlen];have:=h.laid.le.1;omega,by rw[hlen];exact hc.Wb h.ph,hc.NY h.small,by rw[hlen];exact r1,by rw[hlen];exact r2,hc.root⟩
 .rw[hlen]at hj;rw[f5];exact ug.log j hj
 .rw[hlen,aEC];exact h.laid.put pN
 .rw[hlen]at hj;exact Xq h.le _ (aDt _) j hj
end
def Fa {P:Nat->Piece}{count:Nat}:∀{rs:List (List UInt8)} {s e:Nat},iP P count s rs e->(∀(f:Nat) (out:List (List UInt8)),ie P count f e [] out e=(out,e))->∀(fuel:Nat) (out:List (List UInt8)),e<=s+fuel->ie P count fuel s [] out s=(out++rs,e):=by
 intro rs
 induction rs with
 |nil=>
  intro s e h gq fuel out hf;have h:e=s:=h;subst h;rw[gq];simp
 |cons rec rs ih=>
  intro s e h gq fuel out hf;have h1:=(iP.le h.2).1;have h2:=kQ rec.length;have:=E9 h.1 (fuel-aY rec.length) s out (aY rec.length) 0 pX h2;rw[show fuel-aY rec.length+aY rec.length=fuel from pX]at this;simp only[aEb,Nat.zero_mul,aFj]at this;rw[this,ih h.2 gq _ _ pX];simp
def Fg (P:Nat->Piece)(count:Nat)(rec:List UInt8)(last:Nat)(mask:Nat->Bool):Nat->Nat->Piece
 |0=>P
 |k+1=>λj=>if mask k=true/\j=(last+1+k)%count then cB rec last (aY rec.length) k else Fg P count rec last mask k j
section
variable {P:Nat->Piece} {count last:Nat} {rec:List UInt8} {mask:Nat->Bool}
def zm (j:Nat):∀k,(∀i,i<k->j≠(last+1+i)%count)->Fg P count rec last mask k j=P j:=by
 intro k
 induction k with
 |zero=>intro _;rfl
 |succ k ih=>intro h;simp only[Fg];rw[aDv (λhh=>h k pX hh.2)];exact ih λi hi=>h i pX
def SG (k i:Nat)(hi:i<k)(hk:k<=count):Fg P count rec last mask k ((last+1+i)%count)=if mask i=true then cB rec last (aY rec.length) i else P ((last+1+i)%count):=by
 induction k with
 |zero=>omega
 |succ k ih=>
  simp only[Fg]
  by_cases h:i=k
  .subst h
   by_cases hm:mask i=true
   .rw[aDy ⟨hm,rfl⟩,aDy hm]
   .rw[aDv (λhh=>hm hh.1),aDv hm];exact zm _ _ λj hj=>aEr (uD pX pX)
  .rw[aDv (λhh=>uD (a:=last+1+i) (b:=last+1+k) pX pX hh.2)];exact ih pX pX
def NZ {i i' n:Nat}(hi:i<n)(ff:i'<n)(hn:n<=count)(h:(last+1+i)%count=(last+1+i')%count):i=i':=by
 rcases aGd i i' with h1|h1|h1
 .exact absurd h (uD pX pX)
 .exact h1
 .exact absurd h.symm (uD pX pX)
def NI {base j:Nat}(hj:j<count)(h0:(P j).n≠0)(h:(P j).n%count=j):(P j).n<=jT P count base count:=by
 have h2:=pz P count base (j+1) count pX
 have h3:(P j).n<=jT P count base (j+1):=by
  simp only[jT];rw[aDy ⟨h0,h⟩];omega
 omega
def OV:∀n,(∃i,i<n/\mask i≠true)->∃j,j<n/\mask j≠true/\∀i,i<j->mask i=true:=by
 intro n
 induction n with
 |zero=>rintro⟨i,hi,_⟩;omega
 |succ n ih=>
  rintro⟨i,hi,hm⟩
  by_cases h:∃i,i<n/\mask i≠true
  .obtain⟨j,h1,h2,h3⟩:=ih h;exact⟨j,pX,h2,h3⟩
  .have kX:i=n:=by
    rcases aEG i n with h1|h1
    .exact absurd ⟨i,h1,hm⟩ h
    .omega
   subst kX
   exact⟨i,pX,hm,λk hk=>by
    by_cases hx:mask k=true
    .exact hx
    .exact absurd ⟨k,hk,hx⟩ h⟩
end
section
variable {D D':aP} {G Gk:GM} {base last:Nat} {P:Nat->Piece} {Ls:List (List dN)} {kept:iA} {M:bQ} {l:List dN}
def iK.abO (h:iK D Gk base last P Ls kept)(hc:wB D G M l Ls)(hl:last<=1000000000)(pN:aY (dJ l).length+(last-base)<=D.ao.length/4){b' t':Nat}(hD:kI D.ao (j8 (D.ao.length/4) b' last t' (dJ l) (aY (dJ l).length)) D'):
 (∃top P',lj D' Gk base last top P' Ls kept/\top<=last+aY (dJ l).length)\/∃P',lj D' G base (last+aY (dJ l).length) (last+aY (dJ l).length) P' (Ls++[l]) M.m:=by
 have Cj:=h.least;have Zw:=h.iv;have si:=h.laid.le.1;have Pm:=kQ (dJ l).length;have Zc:=h.laid.count;rw[aEt]at Zc;have hrm:=h.room;have hpk:=λi hi=>(Fl (rec:=dJ l) (last:=last) (i:=i) hi hl pX).1;generalize hn:aY (dJ l).length=n at*;generalize hN:D.ao.length/4=count at*;have gQ:∀j,D.ao.getD j []=D.cur j:=λj=>(kZ h.waits j).symm
 have Be:∀w∈j8 count b' last t' (dJ l) n,∃i,i<n/\w.1=1+(last+1+i)%count/\w.2=(cB (dJ l) last n i).bT:=λw hw=>by
  obtain⟨i,hi,rfl⟩:=LD hw;exact⟨i,hi,rfl,by rw[hn]⟩
 have h0c:0<count:=pX
 have Pv:D'.cur 0=D.cur 0:=by
  rcases hD.cur 0 with h1|⟨w,hw,h1,_⟩
  .rw[h1,gQ]
  .obtain⟨i,_,h2,_⟩:=Be w hw;omega
 have Ko:∀j,1+count<=j->D'.cur j=D.cur j:=λj hj=>by
  rcases hD.cur j with h1|⟨w,hw,h1,_⟩
  .rw[h1,gQ]
  .obtain⟨i,_,h2,_⟩:=Be w hw;have:=aFM (last+1+i) h0c;omega
 obtain⟨mask,Vv⟩:∃mask:Nat->Bool,∀i,mask i=decide (D'.cur (1+(last+1+i)%count)=(cB (dJ l) last n i).bT):=⟨_,λ_=>rfl⟩
 have mM:∀i,i<n->Fg P count (dJ l) last mask n ((last+1+i)%count)=if mask i=true then cB (dJ l) last n i else P ((last+1+i)%count):=λi hi=>by
  have:=SG (P:=P) (count:=count) (last:=last) (rec:=dJ l) (mask:=mask) n i hi pX
  rwa [hn]at this
 have Yy:∀j,(∀i,i<n->j≠(last+1+i)%count)->Fg P count (dJ l) last mask n j=P j:=λj hj=>zm j n hj;generalize hP':Fg P count (dJ l) last mask n=P' at*
 have j7:∀j,j<count->D'.cur (1+j)=(P' j).bT/\(P' j).ok:=λj hj=>by
  have hs:=h.j7 j (by rw[hN];exact hj);have TV:=hD.cur (1+j);rw[gQ]at TV
  by_cases hx:∃i,i<n/\j=(last+1+i)%count
  .obtain⟨i,hi,rfl⟩:=hx;rw[mM i hi]
   by_cases hm:mask i=true
   .rw[aDy hm];rw[Vv]at hm;exact⟨of_decide_eq_true hm,hpk i hi⟩
   .rw[aDv hm];rcases TV with h1|⟨w,hw,h1,h2⟩
    .rw[h1];exact hs
    .obtain⟨i',ff,h3,h4⟩:=Be w hw;have:i=i':=NZ (last:=last) (count:=count) hi ff pX pX;subst this;rw[Vv]at hm;exact absurd (aDz (h2.trans h4)) hm
  .rw[Yy j λi hi e=>hx ⟨i,hi,e⟩];rcases TV with h1|⟨w,hw,h1,h2⟩
   .rw[h1];exact hs
   .obtain⟨i',ff,h3,_⟩:=Be w hw;exact absurd ⟨i',ff,pX⟩ hx
 have hle:∀j,j<count->(P' j).n<=last\/∃i,i<n/\j=(last+1+i)%count/\mask i=true/\(P' j).n=last+1+i:=λj hj=>by
  have hs:=h.le j (by rw[hN];exact hj)
  by_cases hx:∃i,i<n/\j=(last+1+i)%count
  .obtain⟨i,hi,rfl⟩:=hx;rw[mM i hi]
   by_cases hm:mask i=true
   .rw[aDy hm];exact .inr ⟨i,hi,rfl,hm,rfl⟩
   .rw[aDv hm];exact .inl hs
  .rw[Yy j λi hi e=>hx ⟨i,hi,e⟩];exact .inl hs
 have Bf:∀j,j<count->(P' j).n<=last+n:=λj hj=>by
  rcases hle j hj with h1|⟨i,hi,_,_,h1⟩<;>omega
 have laid:iP P' count base (Ls.map dJ) last:=by
  have:=h.laid;rw[hN]at this;exact this.congr λx h1 h2=>Yy _ λi hi=>uD pX pX
 have Gz:=h.ph;rw[hN]at Gz;have fP:=h.rep;have hzero:=h.zero;rw[hN]at fP hzero
 by_cases fk:∃i,i<n/\mask i≠true
 .left;obtain⟨j0,hj0,Gm,hlt⟩:=OV n fk
  have Aa:∀(f:Nat) (out:List (List UInt8)),ie P' count f last [] out last=(out,last):=by
   intro f out
   suffices key:∀d i f now,i+d=j0->ie P' count f (last+i) now out last=(out,last) by exact key j0 0 f [] pX
   intro d
   induction d with
   |zero=>
    intro i f now hi;cases f with
    |zero=>rfl
    |succ f=>
     have hp:=mM i pX;have:i=j0:=pX
     subst this;rw[aDv Gm]at hp;have hs:=h.le ((last+1+i)%count) (by rw[hN];exact aFM _ h0c);rw[ie,aDv (by rw[show last+i+1=last+1+i from pX,hp];omega)]
   |succ d ih=>
    intro i f now hi;cases f with
    |zero=>rfl
    |succ f=>
     have hp:=mM i pX;rw[aDy (hlt i pX)]at hp;have e1:(P' ((last+i+1)%count)).n=last+i+1:=by rw[show last+i+1=last+1+i from pX,hp];rfl
     have e2:¬(P' ((last+i+1)%count)).last=true:=by
      rw[show last+i+1=last+1+i from pX,hp];unfold cB;simp;omega
     rw[ie,aDy e1,aDv e2];exact ih (i+1) f _ pX
  have ui:=Fa laid Aa count [] pX;rw[aDV]at ui
  have anr:last<=jT P' count base count:=by
   cases hL:Ls with
   |nil=>
    rw[hL]at laid;have:last=base:=laid;rw[this];exact pz P' count base 0 count (aFH _)
   |cons a r=>
    by_cases hz:last=0
    .rw[hz];exact aFH _
    .have hp:=laid.UZ (by rw[hL];simp);have:=NI (P:=P') (count:=count) (base:=base) (j:=last%count) (aFM _ h0c) (by rw[hp];exact hz) (by rw[hp])
     rwa [hp]at this
  have hg:∀m,(ki (1+count) (D.ao.length-1-count) (cM [] Ls) kept Gk.fr).get D' m=(ki (1+count) (D.ao.length-1-count) (cM [] Ls) kept Gk.fr).get D m:=λm=>by
   rw[gp,gp,Ko _ pX]
  refine⟨jT P' count base count,P',⟨hD.waits,by rw[hD.len];exact Cj,by rw[hD.len];exact Zw,Pv.trans h.head,by rw[hD.len,hN];exact j7,by rw[hD.len,hN];exact ui,by rw[hD.len,hN],?_,si,anr,pX,by rw[hD.len,hN];exact Gz,h.small,?_,?_,h.root⟩,yr P' count base _ pX Bf count (aDt _)⟩
  .rw[hD.len,hN];intro j hj;rcases hle j hj with h1|⟨i,hi,h1,h2,h3⟩
   .omega
   .exact NI hj pX (by rw[h3,h1])
  .rw[hD.len,hN];exact fP.congr (λm _=>hg m) rfl rfl rfl rfl rfl rfl hD.len
  .rw[hD.len,hN];exact(hg 0).trans hzero
 .right
  have hm:∀i,i<n->mask i=true:=λi hi=>by
   by_cases hx:mask i=true
   .exact hx
   .exact absurd ⟨i,hi,hx⟩ fk
  have U0:iP P' count base ((Ls++[l]).map dJ) (last+n):=by
   rw[aEC,<-hn];exact laid.snoc λi hi=>by rw[mM i pX,aDy (hm i pX),hn]
  have ui:=Fa U0 (λf out=>by
   cases f with
   |zero=>rfl
   |succ f=>
    have:=Bf ((last+n+1)%count) (aFM _ h0c);rw[ie,aDv pX]) count [] pX
  rw[aDV]at ui;obtain⟨r1,r2⟩:=hc.acn hD.len λj hj=>Ko j pX;have e1:=hc.Wb h.ph;rw[hN]at r1 r2 e1;exact⟨P',⟨hD.waits,by rw[hD.len];exact Cj,by rw[hD.len];exact Zw,Pv.trans h.head,by rw[hD.len,hN];exact j7,by rw[hD.len,hN];exact ui,by rw[hD.len,hN];exact CJ U0 h0c Bf,by rw[hD.len,hN];exact Bf,pX,aDt _,AI,by rw[hD.len,hN];exact e1,hc.NY h.small,by rw[hD.len,hN];exact r1,by rw[hD.len,hN];exact r2,hc.root⟩⟩
end
def Oi {l:List dN}{n:Nat}{s:iJ}(h:n∉l.map (·.1)):qp (gE (gW l n s)) n=gE l:=by
 induction l with
 |nil=>simp[gW,gE,qp]
 |cons p r ih=>
  simp only[aEc,aDs,aEM]at h;simp only[gW,aDv h.1];show qp ((((p.1:Nat):Int),CV.agg (aj p.2))::gE (gW r n s)) n=(((p.1:Nat):Int),CV.agg (aj p.2))::gE r;simp only[qp];rw[aDv pX,ih h.2]
def FG {l:List Nat}(h:l.Nodup):(l.map Int.ofNat).Nodup:=by
 induction l with
 |nil=>simp
 |cons a l ih=>
  rw[aDG]at h;rw[aEc,aDG];refine⟨λhh=>?_,ih h.2⟩;obtain⟨b,hb,e⟩:=aDR.1 hh;exact h.1 (by rw[<-Int.ofNat.inj e];exact hb)
def EM {es:List eH}{m:MZ}(h:cT es m):cT (gH es) m:=by
 unfold cT gH at*;rw[aFN];exact h
section
variable {st st':St}
def GP {d:List eH}{s:List eH}{Ld Ls:List dN}(hd:cT d (gE Ld))(hs:cT s (gE Ls))(g:eH->Bool)(hg:∀e,g e=true↔¬∃x∈s,x.1=e.1):cT ((gH d).filter g) (gE (Ld.filter (λe=>decide (e.1∉Ls.map (·.1))))):=by
 have hk:∀n:Nat,(∃x∈s,x.1=I n)↔n∈Ls.map (·.1):=by
  intro n;obtain⟨k1,k2⟩:=rW hs;constructor
  .rintro⟨x,hx,e⟩;obtain⟨m,hm,e2⟩:=k2 x hx;rw[e]at e2;have:(n:Int)=(m:Int):=by cases e2;rfl
   have:n=m:=pX
   rw[this];exact hm
  .intro hn;have:Int.ofNat n∈iX s:=by rw[k1];exact aEA hn
   unfold iX at this;obtain⟨x,hx,e⟩:=aDR.1 this;obtain⟨m,hm,e2⟩:=k2 x hx;refine⟨x,hx,?_⟩;rw[e2]at e⊢;have:(m:Int)=(n:Int):=e;rw[this]
 induction d generalizing Ld with
 |nil=>cases Ld with
  |nil=>rfl
  |cons p r=>simp[cT,gE]at hd
 |cons e d ih=>cases Ld with
  |nil=>simp[cT,gE]at hd
  |cons p r=>
   have uP:=hd;simp only[cT,gE,aEc,aEX,aFl]at uP;obtain⟨⟨a,b⟩,c⟩:=uP;have hi:=ih (Ld:=r) c;show cT (((e.1,e.2.1,0)::gH d).filter _) _;rw[aEK,aEK];have a':e.1=I p.1:=a
   by_cases h:p.1∈Ls.map (·.1)
   .rw[aDv (by rw[hg];show¬¬∃x∈s,x.1=e.1;rw[a',hk];exact λhh=>hh h),aDv R5];exact hi
   .rw[aDy (by rw[hg];show¬∃x∈s,x.1=e.1;rw[a',hk];exact h),aDy R5];show cT ((e.1,e.2.1,0)::_) (gE (p::_));simp only[cT,gE,aEc,a',b]
    congr 1
def Up {bd bs:Nat}{Ld Ls:List dN}(hd:IsMap st bd (gE Ld))(hs:IsMap st bs (gE Ls))(gq:bd≠bs)(GA:Ld.length<=1000000)(hdk:∀n∈Ld.map (·.1),n<=1000000)(lu:Ls.length<=1000000)(hsk:∀n∈Ls.map (·.1),n<=1000000)(hv:∀e∈Ls,e.2.length=512)(hlt:bd<st.nx):
 R 133 [.map bd,.map bs] st λ_ st'=>Kp [bd] st st'/\st'.nx=st.nx/\IsMap st' bd (gE (nR Ld Ls)):=by
 obtain⟨ed,d1,d2,d3,d4⟩:=hd.Mo GA hdk;obtain⟨es,s1,s2,s3,s4⟩:=hs.Mo lu hsk
 have hvg:Hm 512 es:=by
  intro e he;have:(e.1,e.2.1)∈(gE Ls).map (λp=>(I p.1,p.2)):=by rw[<-s1];exact aEA he
  obtain⟨q,hq,e2⟩:=aDR.1 this;unfold gE at hq;obtain⟨x,hx,rfl⟩:=aDR.1 hq;simp only[aFl]at e2;exact⟨aj x.2,e2.2.symm,by simpa using hv x hx,bC _⟩
 have hI:I0 133 [.map bd,.map bs] st=some (.ok .undef ⟨st.m.put bd (some (.lmap (kJ ed es))),st.nx⟩):=by
  show G8 512 [.map bd,.map bs] st=_;unfold G8;simp only;rw[d2,s2,aDy ⟨gq,d3,s3,d4,s4,hvg⟩]
 refine Re hI ?_;have eS:(⟨st.m.put bd (some (.lmap (kJ ed es))),st.nx⟩:St)=St.set st bd (.lmap (kJ ed es)):=rfl;rw[eS];refine⟨(Kp.refl _ st).set _ (.inl rq) hlt,rfl,.inr ⟨kJ ed es,aq _ _ _,?_,?_⟩⟩
 .unfold kJ nR;have h1:=GP d1 s1;have h2:=EM s1;unfold cT at*;rw[aEC,h1,h2]
  .unfold gE;simp only[aEC]
  .intro e;simp
 .have n1:=hd.nd;have n2:=hs.nd;rw[kO]at n1 n2⊢;have n1':=iy n1;have n2':=iy n2
  have:((nR Ld Ls).map (·.1)).Nodup:=by
   unfold nR;rw[aEC,aEn];refine⟨List.Sublist.nodup (List.Sublist.map _ List.filter_sublist) n1',n2',λa ha b hb e=>?_⟩;obtain⟨x,hx,rfl⟩:=aDR.1 ha;have:=(aFk.1 hx).2;simp only[aEJ]at this;exact this (e▸hb)
  exact FG this
end
section
variable {st st':St} {p a:Nat} {lg:CV} {M:bQ} {bd bn bi bc:Nat} {F:List Nat} {D:aP}
def Ul (e:dN)(h:e.1<=2147483647)(h2:e.2.length=512):(Mx e).length<=520:=by
 unfold Mx;have h1:=wK e.2;have h3:=(jS e.1 h).2;have h4:=pY (n:=(jb e.2).length) pX;simp only[aDw];omega
def JM (l:List dN)(h:∀e∈l,e.1<=2147483647/\e.2.length=512):(dJ l).length<=520*l.length:=by
 induction l with
 |nil=>exact aDt _
 |cons e l ih=>
  have h1:=Ul e (h e rq).1 (h e rq).2;have h2:=ih λx hx=>h x WH;have:dJ (e::l)=Mx e++dJ l:=rfl;rw[this,aDw,aDT];omega
structure agE (N:List dN)(ks:List Nat):Prop where
 m:∀n∈ks,∃s,cX N n=some s/\n<=100000/\s.length=512
def SE {x:CV}{ks:List Nat}{N:List dN}{K:List CV->St->Prop}(hP:cC st p a lg {M with now:=N} bd bn bi bc)(iw:eM st)(hx:∀s,Kp [] st s->Sl s [] x 1 (cF ks))(mc:agE N ks)(Bg:ks.length<=1900)
 (hK:∀s rec,Kp [] st s->(∃Fr,Own s rec 1 5 (aj (dJ (dK N ks))) Fr/\∀b∈Fr,st.nx<=b/\b<s.nx)->K [.ptr p 0,rec,x,I ks.length,I ks.length] s):
 db (λtX s6 U5=>
 us (ai .lss (none) false (au 4 tX) (au 3 tX) s6) λjl=>
 aA jl (
 Lim.idx 1 (au 2 tX) (au 4 tX) s6 λjn=>
 eW 5 (au 0 tX) s6 λjN=>
 us (iE .int (.agg (zr 512)) false jN jn s6) λjk=>
 upon (dG 173 (zr 512) s6) λjg s7=>
 upon (aQ 512 jg jk s7) λ_ s8=>
 bU (
 R 129 [(au 1 tX),jn] s8 λjR s9=>
 us (bR 512 1 jg none none s9) λjQ=>
 R 130 [jQ,(.str [0])] s9 λjj dp=>
 us (dy .strOf jj dp) λlY=>
 R 128 [jR,lY] dp λmK c9=>
 ((True)/\True)/\(True)/\
 us (ai .add (none) true (au 4 tX) (.int .i64 1) c9) λow=>
 U5 [(au 0 tX),mK,(au 2 tX),(au 3 tX),ow] c9)) (K tX s6)) [.ptr p 0,.ae,x,I ks.length,I ((0:Nat):Int)] st:=by
 have zR:∀i,i<=ks.length->(dJ (dK N (ks.take i))).length<=990000:=λi hi=>by
  have h1:=JM (dK N (ks.take i)) λe he=>by
   unfold dK at he;obtain⟨n,hn,rfl⟩:=aDR.1 he;obtain⟨s,h1,h2,h3⟩:=mc.m n (aEg hn);simp only[h1,aFa];exact⟨pX,h3⟩
  have h2:(dK N (ks.take i)).length<=1900:=by unfold dK;simp;omega
  omega
 refine bK (λfu vs s=>∃i rec,fu+i=ks.length/\vs=[.ptr p 0,rec,x,I ks.length,I i]/\Kp [] st s/\∃Fr,Own s rec 1 5 (aj (dJ (dK N (ks.take i)))) Fr/\∀b∈Fr,st.nx<=b/\b<s.nx) ?_ (n:=ks.length) ⟨0,.ae,rfl,rfl,Kp.refl _ _,[],.inl ⟨rfl,rfl,rfl⟩,rq⟩;rintro fu vs s k ⟨i,rec,hi,rfl,hk,Fr,own,P7⟩ next;simp only[aH,aI];rw[dq,af,ag];have xY:=hP.keep hk rq;have Cd:=xY.main;have qA:=hk.nx
 by_cases Ac:i<ks.length
 .rw[aDz Ac,aDy rfl];refine(hx s hk).idx (i:=i) adg _ ?_;have e9:(cF ks)[i]'(by simpa using Ac)=I ks[i]:=by simp[cF]
  rw[e9];obtain⟨sec,hg,hnp,lu⟩:=mc.m ks[i] (aDL Ac);have zV:=IsMap.lookup (.inl xY.now) (.agg (zr 512)) false ks[i] s rfl;rw[aDv wI,vy,show cX ({M with now:=N}:bQ).now ks[i]=some sec from hg]at zV;simp only[aED,aFa]at zV;simp only[eW,br,ah,af,aC,aDx,Cd,ar,aDq,aDo,az,zV];have AO:(aj sec).length=512:=by simpa using lu
  refine lJ AO (bC _) ?_;have k8:=(Kp.refl [] s).page (aj sec);have g8:(St.set (St.new s (.cells (zr 512) 173 false)) s.nx (.cells (aj sec) 173 false)).m.g s.nx=some (.cells (aj sec) 173 false):=aq _ _ _;have n8:(St.set (St.new s (.cells (zr 512) 173 false)) s.nx (.cells (aj sec) 173 false)).nx=s.nx+1:=rfl;generalize St.set (St.new s (.cells (zr 512) 173 false)) s.nx (.cells (aj sec) 173 false)=s8 at*;have akU:=own.keep k8 λb hb=>⟨(P7 b hb).2,rq⟩;rw[bA];have asI:=zR i pX;refine(sv (akU.sl (X:=[]) λb hb=>⟨rq,by have:=(P7 b hb).2;omega⟩) pX pX).mono ?_;intro jR s9 hm9;have k9:=hm9.kp;have n9:=k9.nx;have AL:bR 512 1 (.ptr s.nx 0) none none s9=.ok (.slice s.nx 0 512 512 0) s9:=rfl;rw[AL,af];have g9:=(k9.keep s.nx pX rq).trans g8;have Yj:lB s9 [s.nx] (.slice s.nx 0 512 512 0) 1 (aj sec):=λX hX=>.inr ⟨s.nx,0,512,512,0,rfl,by simp[lu],⟨aDt _,.inl rfl⟩,.inr ⟨hX s.nx rq,pX,_,_,_,g9,pX,Wu⟩⟩;refine(Sk Yj pX pX).mono ?_;rintro jj dp ⟨hst,rfl⟩;rw[hst.nil.str,af];have htl:=wK sec;have hub:=yO ks[i];have hul:=(jS ks[i] pX).2;refine(CM (hm9.sl [] rq) AI pX).mono ?_;intro mK c9 Pu;refine⟨⟨adu,adu⟩,adu,?_⟩;rw[gT i pX,af];have rh:=Pu.kp;obtain⟨F11,q1,q2,q3⟩:=Pu
  have Wa:dJ (dK N (ks.take (i+1)))=dJ (dK N (ks.take i))++uv ks[i]++(uv (jb sec).length++jb sec):=by
   rw[aDH Ac];unfold dK;rw[aEC,Fb];simp[dJ,Mx,hg]
  rw[<-Wa]at q2;have k89:Kp [] st _:=((hk.trans k8 rq).trans k9 rq).trans rh rq;exact next (fu-1) _ _ pX ⟨i+1,mK,pX,rfl,k89,F11,q2,λb hb=>⟨by have:=(q3 b hb).1;omega,(q3 b hb).2⟩⟩
 .rw[aDr Ac,aDv wI];rw[aDA pX]at own;have hii:i=ks.length:=by omega
  subst hii;exact hK s rec hk ⟨Fr,own,P7⟩
end
