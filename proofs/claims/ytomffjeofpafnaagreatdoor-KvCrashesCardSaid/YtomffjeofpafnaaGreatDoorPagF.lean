import Derived.Test.YtomffjeofpafnaaGreatDoorPagE
namespace Lim
open Go
noncomputable section
set_option linter.defProp false
set_option maxRecDepth 100000
def GM0 (b:Nat):GM:=⟨b,1,0,[],λ_=>.blank,[]⟩
def da:iZ:=⟨0,1,0,0⟩
def P0z:Nat->Piece:=λ_=>⟨0,false,[]⟩
def abR (j:Nat):(P0z j).ok:=⟨by show 0<=_;omega,by show 0<=_;omega,λ_=>⟨rfl,rfl⟩,λh=>absurd rfl h⟩
def Oh {D D':aU}(p:64<=D.aq.length)(m:D.aq.length<=65536)(f:∀i,i<D.aq.length->D.cur i=lO)(l:Calm D')(g:D'.waits=[])(d:D'.aq.length=D.aq.length)
 (c:∀j,D'.cur j=if j=0 then c9 0 else if j=1+D.aq.length/4 then bO da else D.cur j):jh D' (GM0 (D.aq.length-1-D.aq.length/4)) 0 0 P0z [] da:=by
 have e:(kU (1+D.aq.length/4) (D.aq.length-1-D.aq.length/4) [] da []).get D' 0=bO da:=by
  rw[gN,c,aHM uM,aHP uM];rfl
 refine⟨l,g,uM,uM,by rw[c,aHP rfl],λj k=>?_,rfl,λj _=>aHK _,uM,wb,wb,?_,by rw[d];exact e,xI⟩
 .rw[d]at k;rw[c,aHM uM,aHM uM,f _ uM];exact⟨Uh,abR j⟩
 .rw[d];refine⟨rfl,rfl,rfl,rfl,rfl,λn=>Iff.rfl,aJQ,⟨aHK _,?_,?_,aJQ,λn b=>by cases b⟩,?_,λn b=>?_,λn b=>?_,afp,rfl,aJQ,(λn b=>by cases b),rfl⟩
  .show 1<=D.aq.length-1-D.aq.length/4;omega
  .show D.aq.length-1-D.aq.length/4<=65536;omega
  .show 1+D.aq.length/4+(D.aq.length-1-D.aq.length/4)<=D'.aq.length;omega
  .have b:n<1:=b;have:n=0:=by omega
   subst this;show((kU _ _ [] da []).get D' 0).length=512;rw[e];exact il _
  .have h1:=b.1;have o:n<1:=b.2.1;omega
def aec (b:Nat)(h:1<=b)(d:b<=65536):fC (GM0 b) []:=⟨⟨aHK _,h,d,aJQ,λn c=>by cases c⟩,.inl ⟨rfl,rfl⟩⟩
section
variable {st st':St} {a:Nat} {F:List Nat} {D:aU}
def Oi (N:cQ st a F D)(jH:eA st)(hc:Calm D)(fo:D.set=false)(hw:D.waits=[])(Ic:64<=D.aq.length)(hz:∀i,i<D.aq.length->D.cur i=lO):R 42 [.ptr a 0] st (zL a F D (GM0 (D.aq.length-1-D.aq.length/4)) 0 st):=by
 refine bK ?_;rw[w42];have ao:=(show D.aq.length<=65536 from by obtain⟨_,_,_,_,_,_,_,h⟩:=N;exact h.size);rw[cc,af,ag,aHM xI];refine(vD N).same ?_;have ad:aj .lss none true (I D.aq.length) (.int .i64 64) st=.ok (.bool false) st:=abu
 rw[ad,af,ag,aHM xI];refine(LN N uM).mono ?_;rintro _ s2 ⟨k2,p,z,x,y,bc,rfl,O,E⟩;have Dy:=N.keep k2 wb;have n2:=k2.nx;rw[cM];refine(qA Dy).same ?_;simp only[aK,aL];refine bG (λfu vs s=>∃i,fu+i=D.aq.length/4/\vs=[.ptr a 0,.ptr p 0,I ((D.aq.length/4:Nat):Int),I i]/\Kp [] s2 s) ?_ (n:=D.aq.length/4) ⟨0,rfl,rfl,Kp.refl _ _⟩;rintro fu vs s k ⟨i,hi,rfl,G⟩ next;simp only[aK,aL];rw[dD,af,ag];have M:=Dy.keep G wb;have f:=O.keep G wb;have Vz:=G.fresh (k2.fresh jH);have Q:∀s,aj .neq (some .int) true (I 0) (.int .i64 0) s=.ok (.bool false) s:=λs=>rfl
 by_cases sD:i<D.aq.length/4
 .rw[aHQ sD,aHP rfl]
  have e1:aj .add none true (.int .i64 1) (I i) s=.ok (I ((1+i:Nat):Int)) s:=by
   have:aj .add none true (I ((1:Nat):Int)) (I i) s=.ok (I ((1+i:Nat):Int)) s:=O8
   exact this
  rw[e1,af]
  have ZR:D.read ((1+i:Nat):Int)=(0,lO):=by
   have:=hc.read (i:=1+i) uM;rw[hz _ uM]at this;exact this
  refine(wA M ((1+i:Nat):Int)).mono ?_;intro v d hv;rw[ZR,aHP rfl]at hv;obtain⟨k5,_,b,rfl,gb,FY,BO⟩:=hv;rw[aD,af,aI,aD,af,Q,af,ag,aHM xI];have ab:Sl d [] (.slice b 0 512 512 1) 1 (ai lO):=.inr ⟨b,0,512,512,1,rfl,by simp[qy],⟨aHK _,.inr rfl⟩,.inr ⟨wb,BO,_,_,_,gb,by simp[qy],by rw[aIn,aHS (by simp[qy])]⟩⟩;have Rg:bt .slice (.slice b 0 512 512 1) d=.ok (I ((512:Nat):Int)) d:=rfl;rw[Rg,af];have Vp:=Az (n:=512) (s:=d) uM;rw[Vp,aP];have k6:Kp [] d (St.new d (.cells (ai (List.replicate 512 0)) 5 false)):=(Kp.refl [] d).new _;have g6:(St.new d (.cells (ai (List.replicate 512 0)) 5 false)).m.g d.nx=some (.cells (ai (List.replicate 512 0)) 5 false):=au _ _;have n6:(St.new d (.cells (ai (List.replicate 512 0)) 5 false)).nx=d.nx+1:=rfl;generalize St.new d (.cells (ai (List.replicate 512 0)) 5 false)=s6 at*;have aa:Sl s6 [] (.slice d.nx 0 512 512 0) 1 (ai (List.replicate 512 0)):=.inr ⟨d.nx,0,512,512,0,rfl,wb,⟨aHK _,.inl rfl⟩,.inr ⟨wb,uM,_,_,_,g6,wb,by rw[aIn,aHS wb]⟩⟩;refine(Sd (ab.mono k6) aa).same ?_;have ae:(lO==List.replicate 512 0)=true:=beq_self_eq_true _;rw[ae,cR,af,aIb,ag,aHM xI,gJ i uM,af];exact next (fu-1) _ _ uM ⟨i+1,uM,rfl,(G.trans k5 wb).trans k6 wb⟩
 .rw[aHL sD,aHM xI];have mo:aZ [.int .i64 0,.int .i64 0,.int .i64 0,.int .i64 0] [(1,1,.int .i64 1)] s=.ok (.agg [I da.root,I da.used,I da.head,I da.free]) s:=rfl;rw[mo,af];have A2:=f.main;have ac:=f.lt p wb
  have L7:∀{s:St} {l:List CV} {o:Nat} {K:St->Prop},s.m.g p=some (.cells l 158 false)->o+4<=l.length->K (St.set s p (.cells (bz l o [I da.root,I da.used,I da.head,I da.free]) 158 false))->mc 4 o (.ptr p 0) (.agg [I da.root,I da.used,I da.head,I da.free]) s K:=by
   intro s l o K hg P hK;simp only[mc,bj,ah,af,aH,hg,aS,aT,aHN];exact⟨⟨rfl,rfl,P⟩,hK⟩
  have XF:∀{s:St} {l:List CV} {K:CV->Prop},s.m.g p=some (.cells l 158 false)->10<=l.length->(l.drop 6).take 4=[I da.root,I da.used,I da.head,I da.free]->K (.agg [I da.root,I da.used,I da.head,I da.free])->zx 4 6 (.ptr p 0) s K:=by
   intro s l K hg P h4 hK;unfold zx;rw[bj,af,ah,af,gL (n:=4) hg uM,af,aHN,h4];exact hK
  refine L7 A2 wb ?_;refine XF (an _ _ _) (by simp[bz]) rfl ?_;refine L7 (an _ _ _) (by simp[bz]) ?_;rw[set_set];refine XF (an _ _ _) (by simp[bz]) rfl ?_;have u:=f.nd;simp only[aHX,aHJ,aIo,aJj,aJf]at u
  have zt:bZ (St.set s p (.cells (bz (bz [.ptr a 0,.bq,I (ey D.aq.length).first,I (ey D.aq.length).aE,.map z,.map x,I (ey D.aq.length).kept.root,I (ey D.aq.length).kept.used,I (ey D.aq.length).kept.head,I (ey D.aq.length).kept.free,I (ey D.aq.length).m.root,I (ey D.aq.length).m.used,I (ey D.aq.length).m.head,I (ey D.aq.length).m.free,.map y,.map bc] 6 [I da.root,I da.used,I da.head,I da.free]) 10 [I da.root,I da.used,I da.head,I da.free]) 158 false)) p a .bq {ey D.aq.length with kept:=da,m:=da} z x y bc:=
   ⟨an _ _ _,f.dirty.mono (ak _ _ _ _ (aIG u.1.1)),f.now.mono (ak _ _ _ _ (aIG u.1.2.1)),f.idle.mono (ak _ _ _ _ (aIG u.1.2.2.1)),f.count.mono (ak _ _ _ _ (aIG u.1.2.2.2)),f.nd,f.lt,⟨rfl,rfl,rfl⟩⟩
  have Y:Kp [p] s (St.set s p (.cells (bz (bz [.ptr a 0,.bq,I (ey D.aq.length).first,I (ey D.aq.length).aE,.map z,.map x,I (ey D.aq.length).kept.root,I (ey D.aq.length).kept.used,I (ey D.aq.length).kept.head,I (ey D.aq.length).kept.free,I (ey D.aq.length).m.root,I (ey D.aq.length).m.used,I (ey D.aq.length).m.head,I (ey D.aq.length).m.free,.map y,.map bc] 6 [I da.root,I da.used,I da.head,I da.free]) 10 [I da.root,I da.used,I da.head,I da.free]) 158 false)):=(Kp.refl _ s).set _ (.inl wb) ac;generalize St.set s p (.cells (bz (bz [.ptr a 0,.bq,I (ey D.aq.length).first,I (ey D.aq.length).aE,.map z,.map x,I (ey D.aq.length).kept.root,I (ey D.aq.length).kept.used,I (ey D.aq.length).kept.head,I (ey D.aq.length).kept.free,I (ey D.aq.length).m.root,I (ey D.aq.length).m.used,I (ey D.aq.length).m.head,I (ey D.aq.length).m.free,.map y,.map bc] 6 [I da.root,I da.used,I da.head,I da.free]) 10 [I da.root,I da.used,I da.head,I da.free]) 158 false)=dQ at*;have xO:=N.lt;have ba:=E p wb;have aG:=M.keep Y λb c hh=>by have:=xO b c;simp at hh;omega
  have rE:=G.nx;have bb:=Y.nx;refine(ER (m:=da) (by intro n hn;simp[mn,da]at hn;rcases hn with rfl|rfl|rfl|rfl<;>omega)).mono ?_;rintro _ e ⟨rfl,nJ⟩;have Mh:=il da;have vP:(ai (bO da)).length=512:=by simpa using Mh
  refine gW vP (bu _) ?_;have L:=nJ.page (ai (bO da));have My:(St.set (St.new e (.cells (zr 512) 173 false)) e.nx (.cells (ai (bO da)) 173 false)).m.g e.nx=some (.cells (ai (bO da)) 173 false):=an _ _ _;have aR:(St.set (St.new e (.cells (zr 512) 173 false)) e.nx (.cells (ai (bO da)) 173 false)).nx=e.nx+1:=rfl;generalize St.set (St.new e (.cells (zr 512) 173 false)) e.nx (.cells (ai (bO da)) 173 false)=J at*;have VJ:=zt.keep L wb;have aJ:=aG.keep L wb;have aF:=VJ.main;have XE:=L.fresh (Y.fresh Vz);have zH:bT 512 1 (.ptr e.nx 0) none none J=.ok (.slice e.nx 0 512 512 0) J:=rfl;rw[bD,bj,af,ah,af,az,aF,ar];simp only[aHN,aHI,aHG,aw,zH,af];have LI:=nJ.nx;have ZH:Sl J F (.slice e.nx 0 512 512 0) 1 (ai (bO da)):=.inr ⟨e.nx,0,512,512,0,rfl,by simp[Mh],⟨aHK _,.inl rfl⟩,.inr ⟨λhh=>by have:=xO _ hh;omega,uM,_,_,_,My,uM,Yv⟩⟩;refine(wg aJ (i:=((1+D.aq.length/4:Nat):Int)) XE (by rw[hw];simp) ZH Mh).mono ?_;rintro _ iV ⟨rfl,Z,F2,Fl,W⟩;obtain⟨w1,w2,w3,w4,w5,w6,w7⟩:=(hc.write (i:=1+D.aq.length/4) (s:=bO da) uM Mh adu).resolve_right λh=>by rw[fo]at h;exact absurd h.2.1 xI
  rw[fo]at w7;generalize a0:(D.write ((1+D.aq.length/4:Nat):Int) (bO da)).2=D1 at*;rw[w1];refine⟨⟨afp,afp⟩,afp,?_⟩;rw[Q,af,ag,aHM xI];refine(xe Fl (by rw[w5,hw];simp)).mono ?_;rintro _ dv ⟨rfl,V,F3,ax,Bb⟩;obtain⟨f1,f2,f3,f4,f5,f6⟩:=(w2.flush w4).resolve_right λh=>by rw[w7]at h;exact absurd h.2.1 xI
  rw[w7]at f6;generalize aY:D1.flush.2=D2 at*;rw[f1,Q,af,ag,aHM xI];have XD:=V.fresh (Z.fresh XE);refine(Mo XD ax (by rw[f4];simp) (base:=0) uM).mono ?_;rintro _ jG ⟨rfl,Dn,F4,VE,am⟩;obtain⟨g1,g2,g3,g4,g5,g6⟩:=(f2.head f4 (by rw[f3,w3];omega) 0).resolve_right λh=>by rw[f6]at h;exact absurd h.2.1 xI
  rw[f6]at g6;generalize aW:(D2.head 0).2=D3 at*;rw[g1,Q,af,ag,aHM xI];have I8:D3.aq.length=D.aq.length:=by rw[g3,f3,w3]
  have uH:∀j,D3.cur j=if j=0 then c9 0 else if j=1+D.aq.length/4 then bO da else D.cur j:=λj=>by
   rw[g5]
   by_cases H:j=0
   .rw[aHP H,aHP H]
   .rw[aHM H,aHM H,f5,w6]
  have lG:=Oh Ic ao hz g2 g4 I8 uH;refine(qA VE).same ?_;have aC:=Dn.fresh XD;have al:tH D3 ⟨1,D3.aq.length/4,0,0,0⟩ P0z:=⟨by show 0<D3.aq.length/4;omega,by show 1+D3.aq.length/4<=_;omega,uM,aJL _,λj H=>lG.kQ j H⟩;refine(Al (base:=0) aC VE g2.dead al uM).mono ?_;rintro _ sM ⟨r,xo,Fo,Gg,rfl,w,kV,uW,aV,hr⟩;have aQ:=Z.nx;have aO:=V.nx;have aN:=Dn.nx;have aM:=w.nx;have be:=L.nx
  have X2:∀b∈F4,b∈F\/J.nx<=b:=λb c=>by
   rcases am b c with h1|h1
   .rcases Bb b h1 with h2|h2
    .exact W b h2
    .right;omega
   .right;omega
  have S:∀b∈F3,b∈F\/J.nx<=b:=λb c=>by
   rcases Bb b c with h2|h2
   .exact W b h2
   .right;omega
  have C:=O.lt
  have U:∀(X:List Nat),(∀b∈X,b∈F\/J.nx<=b)->∀b∈[p,z,x,y,bc],b∉X:=λX hX b c hh=>by
   have h1:=C b c;have h2:=E b c;rcases hX b hh with P|P
   .have:=xO b P;omega
   .omega
  have A:=(((VJ.keep Z (U F afk)).keep V (U F2 W)).keep Dn (U F3 S)).keep w wb;have ay:=VE.keep w wb;rw[aD,af,aI,aD,af,aI,aI,aD,af,Q,af,ag,aHM xI];have aB:=A.main;have aA:=A.lt p wb;simp only[mc,bj,ah,af,aHN];rw[aH,aB,aS];refine⟨⟨rfl,rfl,wb⟩,?_⟩;have QH:∀T,Kp [p] sM (St.set sM p (.cells T 158 false)):=λT=>(Kp.refl _ sM).set _ (.inl wb) aA;have a5:=C p wb;have a8:=C z wb;have a6:=C x wb;have a7:=C y wb;have a9:=C bc wb;have ap:=VE.lt;have E9:=lG.rep;rw[I8]at E9;refine⟨⟨p,a,.ptr r 0,z,x,y,bc,F4,D3,[],da,1+D.aq.length/4⟩,rfl,rfl,⟨{ey D.aq.length with kept:=da,m:=da},⟨an _ _ _,A.dirty.mono (ak _ _ _ _ (aIG u.1.1)),A.now.mono (ak _ _ _ _ (aIG u.1.2.1)),A.idle.mono (ak _ _ _ _ (aIG u.1.2.2.1)),A.count.mono (ak _ _ _ _ (aIG u.1.2.2.2)),A.nd,A.lt,⟨rfl,rfl,rfl⟩⟩,E9,ay.keep (QH _) λb c hh=>?_,g2.dead,λb c hh=>?_,rfl,rfl,rfl⟩,⟨⟨0,0,P0z,[],r,lG,aHK _,rfl,?_,?_,λn=>rfl⟩,by show 1+D.aq.length/4=1+D3.aq.length/4;rw[I8],wb,wb⟩,?_,?_,by show st.nx<=p;omega,g2,I8,⟨r,rfl,uM⟩,g6.trans fo.symm⟩
  .exact U F4 X2 p wb (by have:b=p:=by simpa using hh
                          rw[<-this];exact c)
  .exact U F4 X2 b hh c
  .have:=(lG.opened).2;rw[this]at kV;exact kV.keep (QH _) zS
  .unfold PI.all;simp only[aHJ,aJf];exact⟨uM,uM,uM,uM,uM,λhh=>by have:=ap r hh;omega⟩
  .have q0:Kp F st s:=(k2.trans G wb).mono wb;have q1:=(q0.trans Y (by intro q B;right;simp at B;omega)).trans L wb;have q2:=q1.trans Z afk;have q3:=q2.trans V λq B=>(W q B).imp id λh=>by omega
   have q4:=q3.trans Dn λq B=>(S q B).imp id λh=>uM
   exact(q4.trans w wb).trans (QH _) (by intro q B;right;simp at B;omega)
  .intro b c;unfold PI.all at c;simp only[aHJ]at c;have a3:=E z wb;have a1:=E x wb;have a2:=E y wb;have a4:=E bc wb;rcases c with c|c|c|c|c|c
   .right;omega
   .right;omega
   .right;omega
   .right;omega
   .right;omega
   .rcases X2 b c with h1|h1
    .left;exact h1
    .right;omega
end
def aU.F9 (D:aU)(L:List (Nat×iT))(w:Nat×iT):D.writes (L++[w])=if (D.writes L).1=0 then (if ((D.writes L).2.write w.1 w.2).1=0 then (0,((D.writes L).2.write w.1 w.2).2)else (D.writes L).2.write w.1 w.2)else D.writes L:=by
 induction L generalizing D with
 |nil=>rfl
 |cons v L d=>
  have e:∀R,D.writes (v::R)=if (D.write v.1 v.2).1=0 then (D.write v.1 v.2).2.writes R else D.write v.1 v.2:=λR=>rfl
  by_cases a:(D.write v.1 v.2).1=0
  .have c:D.writes (v::L)=(D.write v.1 v.2).2.writes L:=by rw[e,aHP a]
   have b:D.writes (v::L++[w])=(D.write v.1 v.2).2.writes (L++[w]):=by rw[aIL,e,aHP a]
   rw[b,c];exact d _
  .have c:D.writes (v::L)=D.write v.1 v.2:=by rw[e,aHM a]
   have b:D.writes (v::L++[w])=D.write v.1 v.2:=by rw[aIL,e,aHM a]
   rw[b,c,aHM a]
def kR (count base last top:Nat)(rec:List UInt8)(k:Nat):List (Nat×iT):=(List.range k).map (RingM.sr ⟨1,count,base,last,top⟩ rec)
def Nk {count base last top:Nat}{rec:List UInt8}{k:Nat}{w:Nat×iT}(h:w∈kR count base last top rec k):∃i,i<k/\w=(1+(last+1+i)%count,(cO rec last (bf rec.length) i).bX):=by
 unfold kR at h;obtain⟨i,hi,rfl⟩:=aIk.1 h;exact⟨i,List.mem_range.1 hi,rfl⟩
structure SM (D D':aU)(count:Nat)(P':Nat->Piece)(W:List (Nat×iT)):Prop where
 calm:Calm D'
 Dq:D'.Dq
 aq:D'.aq=D.aq
 waits:D'.waits=D.waits++W
 log:∀j,j<count->D'.cur (1+j)=(P' j).bX/\(P' j).ok
 zero:D'.cur 0=D.cur 0
 rest:∀j,1+count<=j->D'.cur j=D.cur j
 set:D'.set=D.set
def GS {rec:List UInt8}{last i:Nat}(hi:i<bf rec.length)(c:last<=1000000000)(b:bf rec.length<=1000000):(cO rec last (bf rec.length) i).ok/\(cO rec last (bf rec.length) i).bX.length=512:=by
 have a:(cO rec last (bf rec.length) i).data.length<=501:=acY
 refine⟨⟨acY,a,λh=>absurd h (by unfold cO;simp),λ_ h=>?_⟩,Piece.rk _ a⟩;have d:¬i+1=bf rec.length:=by unfold cO at h;simpa using h
 have h2:=GU (len:=rec.length) (i:=i+1) uM;unfold cO;simp;omega
def MS {D:aU}{count base last top:Nat}{P:Nat->Piece}{rec:List UInt8}(y:Calm D)(b:D.Dq)(z:0<count)(J:1+count<=D.aq.length)(n:∀j,j<count->D.cur (1+j)=(P j).bX/\(P j).ok)(x:last<=1000000000)(v:bf rec.length<=1000000):
 ∀k,k<=bf rec.length->((D.writes (kR count base last top rec k)).1=0/\SM D (D.writes (kR count base last top rec k)).2 count (wB P count rec last k) (kR count base last top rec k))\/((D.writes (kR count base last top rec k)).1=20/\D.set=true/\ln D.aq (D.waits++kR count base last top rec k) (D.writes (kR count base last top rec k)).2):=by
 intro k
 induction k with
 |zero=>intro _;exact .inl ⟨rfl,y,b,rfl,by simp[kR,aU.writes],n,rfl,λ_ _=>rfl,rfl⟩
 |succ k r=>
  intro H;obtain⟨q,p⟩:=GS (rec:=rec) (last:=last) (i:=k) uM x v;have I:(last+1+k)%count<count:=aKq _ z
  have B:kR count base last top rec (k+1)=kR count base last top rec k++[(1+(last+1+k)%count,(cO rec last (bf rec.length) k).bX)]:=by
   unfold kR;rw[List.range_succ,aIQ,aIt,List.map_nil];rfl
  rw[B,D.F9];rcases r (by omega)with⟨d,a⟩|⟨d,a,u⟩
  .rw[aHP d];have c:1+(last+1+k)%count<(D.writes (kR count base last top rec k)).2.aq.length:=by rw[a.aq];omega
   rcases a.calm.write (i:=1+(last+1+k)%count) (s:=(cO rec last (bf rec.length) k).bX) c p a.Dq with⟨g,f,e,F,E,o,C⟩|⟨g,f,e⟩
   .rw[aHP g];refine .inl ⟨rfl,f,F,by show aU.aq _=_;rw[e];exact a.aq,by show aU.waits _=_;rw[E,a.waits,aIq],λj m=>?_,?_,λj m=>?_,by show aU.set _=_;rw[C];exact a.set⟩
    .show aU.cur _ (1+j)=_/\_;rw[o];simp only[wB]
     by_cases h:j=(last+1+k)%count
     .rw[aHP uM,aHP h];exact⟨rfl,q⟩
     .rw[aHM uM,aHM h];exact a.log j m
    .show aU.cur _ 0=_;rw[o,aHM uM];exact a.zero
    .show aU.cur _ j=_;rw[o,aHM uM];exact a.rest j m
   .have A:¬((D.writes (kR count base last top rec k)).2.write ((1+(last+1+k)%count:Nat):Int) (cO rec last (bf rec.length) k).bX).1=0:=by rw[g];decide
    rw[aHM A];rw[a.set]at f;rw[a.aq,a.waits]at e;exact .inr ⟨g,f,e.more λw b=>by rw[aIq]at b;exact b⟩
  .rw[aHM (by rw[d];decide)]
   exact .inr ⟨d,a,u.more λw b=>by
    rcases aHT.1 b with h|h
    .exact aJz _ h
    .exact aKG _ (aJz _ h)⟩
def sC.abD {M M':bR}{D D':aU}{G:GM}(h:sC M D G)(e:∀n,0<n->n<M.aE->M'.get D' n=M.get D n)(u:(M'.get D' 0).length=512)(c:M'.aE=M.aE)(b:M'.m=M.m)(i:M'.idle=G.fr)(s:M'.now=[])(d:M'.count=[])(q:M'.first=M.first)(p:D'.aq.length=D.aq.length):sC M' D' G.reset:=by
 have g:=h.ok.ik;have f:uK G.reset:=⟨h.ok.one,h.ok.ik,h.ok.size,h.ok.nd,h.ok.fr⟩;have o:G.reset.used=G.used:=rfl;refine⟨c.trans h.aE,by rw[b];exact h.used,by rw[b];exact h.root,by rw[b];exact h.head,by rw[b];exact h.free,λn=>by rw[i];rfl,by rw[i];exact h.ok.nd,f,by rw[q,c,p];exact h.fits,λn a=>?_,λn a=>?_,?_,by rw[s,d];rfl,by rw[d];exact aJQ,(by rw[d];intro n a;cases a),d⟩
 .by_cases k:n=0
  .rw[k];exact u
  .rw[e n uM (by rw[h.aE];omega)];exact h.len n a
 .rw[e n a.1 (by rw[h.aE];have:=a.2.1;omega)];exact h.cont n a
 .have key:∀l:List Nat,(∀n∈l,0<n/\n<M.aE)->O3 M D l->O3 M' D' l:=by
   intro l
   induction l with
   |nil=>intro _ _;trivial
   |cons n r j=>intro c b;exact⟨(e n (c n wb).1 (c n wb).2).trans b.1,j (λm g=>c m (by simp[g])) b.2⟩
  exact key _ (λn a=>⟨(h.ok.fr n a).1,by rw[h.aE];have:=(h.ok.fr n a).2;omega⟩) h.chain
def CW:∀(l d:List dN) (n:Nat),(l.map (·.1)).Nodup->cZ (sr d l) n=(cZ l n).or (cZ d n):=by
 intro l
 induction l with
 |nil=>intro d n _;rfl
 |cons e l b=>
  intro d n a;rw[aIt,aHX]at a;show cZ (sr (ix d e.1 e.2) l) n=_;rw[b _ n a.2,qB];simp only[cZ]
  by_cases h:n=e.1
  .subst h;rw[aHP rfl,aHP rfl,mz.2 a.1];rfl
  .rw[aHM h,aHM h]
section
variable {D D':aU} {G Gk:GM} {base last:Nat} {P:Nat->Piece} {Ls:List (List dN)} {kept:iZ} {M:bR} {l:List dN}
structure xG (D:aU)(G:GM)(M:bR)(l:List dN)(Ls:List (List dN)):Prop where
 rep:sC M D G
 first:M.first=1+D.aq.length/4
 aE:M.aE=D.aq.length-1-D.aq.length/4
 dir:∀n,cZ M.dirty n=cZ (cU [] Ls) n
 nd:(l.map (·.1)).Nodup
 get:∀n,cZ l n=if n=0 then some (bO M.m)else cZ M.now n
 og:∀e∈l,e.1<M.aE/\e.2.length=512
 small:(dL l).length<=1000000
 root:M.m.root<2147483648
def xG.aeE (h:xG D G M l Ls)(a:D'.aq.length=D.aq.length)(d:∀j,1+D.aq.length/4<=j->D'.cur j=D.cur j):
 sC (kU (1+D.aq.length/4) (D.aq.length-1-D.aq.length/4) (cU [] (Ls++[l])) M.m G.fr) D' G.reset/\(kU (1+D.aq.length/4) (D.aq.length-1-D.aq.length/4) (cU [] (Ls++[l])) M.m G.fr).get D' 0=bO M.m:=by
 have c:∀n,(kU (1+D.aq.length/4) (D.aq.length-1-D.aq.length/4) (cU [] (Ls++[l])) M.m G.fr).get D' n=if n=0 then bO M.m else M.get D n:=λn=>by
  rw[gN,rn,CW l _ n h.nd,h.get]
  by_cases b:n=0
  .rw[aHP b,aHP b];rfl
  .rw[aHM b,aHM b,d _ uM,<-h.dir];unfold bR.get;rw[h.first];cases cZ M.now n with
   |some s=>rfl
   |none=>cases cZ M.dirty n<;>rfl
 exact⟨h.rep.abD (λn f e=>by rw[c,aHM uM]) (by rw[c,aHP rfl];exact il _) h.aE.symm rfl rfl rfl rfl h.first.symm a,by rw[c,aHP rfl]⟩
def xG.Yd (h:xG D G M l Ls)(c:∀l∈Ls,∀e∈l,e.1<D.aq.length-1-D.aq.length/4/\e.2.length=512):∀a∈Ls++[l],∀e∈a,e.1<D.aq.length-1-D.aq.length/4/\e.2.length=512:=λa d e b=>by
 rcases aHT.1 d with h1|h1
 .exact c a h1 e b
 .have:a=l:=by simpa using h1
  subst this;have:=h.og e b;have:=h.aE;omega
def xG.Py (h:xG D G M l Ls)(b:∀l∈Ls,(dL l).length<=1000000):∀a∈Ls++[l],(dL a).length<=1000000:=λa c=>by
 rcases aHT.1 c with h1|h1
 .exact b a h1
 .have:a=l:=by simpa using h1
  rw[this];exact h.small
def jh.abE (h:jh D Gk base last P Ls kept)(c:xG D G M l Ls)(g:bf (dL l).length+(last-base)<=D.aq.length/4){W:List (Nat×iT)}
 (b:SM D D' (D.aq.length/4) (wB P (D.aq.length/4) (dL l) last (bf (dL l).length)) W) (i:D'.flush.1=0):jh D'.flush.2 G.reset base (last+bf (dL l).length) (wB P (D.aq.length/4) (dL l) last (bf (dL l).length)) (Ls++[l]) M.m:=by
 obtain⟨p,o,n,k,d,_⟩:=(b.calm.flush b.Dq).resolve_right λh=>by rw[i]at h;exact absurd h.1 xI
 have hlen:=n.trans (congrArg List.length b.aq);have q:=h.least;obtain⟨f,e⟩:=c.aeE hlen λj a=>(d j).trans (b.rest j a);refine⟨o,k,by rw[hlen];exact h.least,by rw[hlen];exact h.ik,by rw[d,b.zero];exact h.head,λj a=>?_,?_,λj a=>?_,by rw[hlen];have:=h.laid.le.1;omega,by rw[hlen];exact c.Yd h.og,c.Py h.small,by rw[hlen];exact f,by rw[hlen];exact e,c.root⟩
 .rw[hlen]at a;rw[d];exact b.log j a
 .rw[hlen,aIQ];exact h.laid.put g
 .rw[hlen]at a;exact YP h.le _ (aHK _) j a
end
def GK {P:Nat->Piece}{count:Nat}:∀{b:List (List UInt8)} {s e:Nat},jq P count s b e->(∀(f:Nat) (a:List (List UInt8)),iH P count f e [] a e=(a,e))->∀(fuel:Nat) (a:List (List UInt8)),e<=s+fuel->iH P count fuel s [] a s=(a++b,e):=by
 intro b
 induction b with
 |nil=>
  intro s e h c fuel a g;have h:e=s:=h;subst h;rw[c];simp
 |cons rec b d=>
  intro s e h c fuel a g;have h1:=(jq.le h.2).1;have h2:=lC rec.length;have:=GJ h.1 (fuel-bf rec.length) s a (bf rec.length) 0 uM h2;rw[show fuel-bf rec.length+bf rec.length=fuel from uM]at this;simp only[aIv,Nat.zero_mul,aJG]at this;rw[this,d h.2 c _ _ uM];simp
def JK (P:Nat->Piece)(count:Nat)(rec:List UInt8)(last:Nat)(mask:Nat->Bool):Nat->Nat->Piece
 |0=>P
 |k+1=>λj=>if mask k=true/\j=(last+1+k)%count then cO rec last (bf rec.length) k else JK P count rec last mask k j
section
variable {P:Nat->Piece} {count last:Nat} {rec:List UInt8} {mask:Nat->Bool}
def Aq (j:Nat):∀k,(∀i,i<k->j≠(last+1+i)%count)->JK P count rec last mask k j=P j:=by
 intro k
 induction k with
 |zero=>intro _;rfl
 |succ k a=>intro h;simp only[JK];rw[aHM (λhh=>h k uM hh.2)];exact a λi hi=>h i uM
def Us (k i:Nat)(hi:i<k)(e:k<=count):JK P count rec last mask k ((last+1+i)%count)=if mask i=true then cO rec last (bf rec.length) i else P ((last+1+i)%count):=by
 induction k with
 |zero=>omega
 |succ k d=>
  simp only[JK]
  by_cases h:i=k
  .subst h
   by_cases c:mask i=true
   .rw[aHP ⟨c,rfl⟩,aHP c]
   .rw[aHM (λhh=>c hh.1),aHM c];exact Aq _ _ λj f=>aIG (vx uM uM)
  .rw[aHM (λhh=>vx (a:=last+1+i) (b:=last+1+k) uM uM hh.2)];exact d uM uM
def Pz {i a n:Nat}(hi:i<n)(c:a<n)(b:n<=count)(h:(last+1+i)%count=(last+1+a)%count):i=a:=by
 rcases aKI i a with h1|h1|h1
 .exact absurd h (vx uM uM)
 .exact h1
 .exact absurd h.symm (vx uM uM)
def Pn {base j:Nat}(b:j<count)(a:(P j).n≠0)(h:(P j).n%count=j):(P j).n<=kG P count base count:=by
 have h2:=qw P count base (j+1) count uM
 have c:(P j).n<=kG P count base (j+1):=by
  simp only[kG];rw[aHP ⟨a,h⟩];omega
 omega
def Qv:∀n,(∃i,i<n/\mask i≠true)->∃j,j<n/\mask j≠true/\∀i,i<j->mask i=true:=by
 intro n
 induction n with
 |zero=>rintro⟨i,hi,_⟩;omega
 |succ n c=>
  rintro⟨i,hi,b⟩
  by_cases h:∃i,i<n/\mask i≠true
  .obtain⟨j,h1,h2,h3⟩:=c h;exact⟨j,uM,h2,h3⟩
  .have d:i=n:=by
    rcases aIX i n with h1|h1
    .exact absurd ⟨i,h1,b⟩ h
    .omega
   subst d
   exact⟨i,uM,b,λk e=>by
    by_cases a:mask k=true
    .exact a
    .exact absurd ⟨k,e,a⟩ h⟩
end
section
variable {D D':aU} {G Gk:GM} {base last:Nat} {P:Nat->Piece} {Ls:List (List dN)} {kept:iZ} {M:bR} {l:List dN}
def jh.aef (h:jh D Gk base last P Ls kept)(H:xG D G M l Ls)(hl:last<=1000000000)(nM:bf (dL l).length+(last-base)<=D.aq.length/4){b' W:Nat}(b:ln D.aq (kR (D.aq.length/4) b' last W (dL l) (bf (dL l).length)) D'):
 (∃top P',lN D' Gk base last top P' Ls kept/\top<=last+bf (dL l).length)\/∃P',lN D' G.reset base (last+bf (dL l).length) (last+bf (dL l).length) P' (Ls++[l]) M.m:=by
 have Ic:=h.least;have F:=h.ik;have te:=h.laid.le.1;have Ko:=lC (dL l).length;have T:=h.laid.count;rw[aIx]at T;have aa:=h.room;have O:=λi hi=>(GS (rec:=dL l) (last:=last) (i:=i) hi hl uM).1;generalize hn:bf (dL l).length=n at*;generalize c:D.aq.length/4=count at*;have N:=λj=>(lK h.waits j).symm
 have K:∀w∈kR count b' last W (dL l) n,∃i,i<n/\w.1=1+(last+1+i)%count/\w.2=(cO (dL l) last n i).bX:=λw y=>by
  obtain⟨i,hi,rfl⟩:=Nk y;exact⟨i,hi,rfl,by rw[hn]⟩
 have u:0<count:=uM
 have Rb:D'.cur 0=D.cur 0:=by
  rcases b.cur 0 with k|⟨w,y,k,_⟩
  .rw[k,N]
  .obtain⟨i,_,A,_⟩:=K w y;omega
 have Mc:∀j,1+count<=j->D'.cur j=D.cur j:=λj q=>by
  rcases b.cur j with k|⟨w,y,k,_⟩
  .rw[k,N]
  .obtain⟨i,_,A,_⟩:=K w y;have:=aKq (last+1+i) u;omega
 obtain⟨mask,Xx⟩:∃mask:Nat->Bool,∀i,mask i=decide (D'.cur (1+(last+1+i)%count)=(cO (dL l) last n i).bX):=⟨_,λ_=>rfl⟩
 have C:=λi hi=>by
  have:=Us (P:=P) (count:=count) (last:=last) (rec:=dL l) (mask:=mask) n i hi uM
  rwa [hn]at this
 have U:∀j,(∀i,i<n->j≠(last+1+i)%count)->JK P count (dL l) last mask n j=P j:=λj q=>Aq j n q;generalize ac:JK P count (dL l) last mask n=P' at*
 have Z:∀j,j<count->D'.cur (1+j)=(P' j).bX/\(P' j).ok:=λj q=>by
  have hs:=h.kQ j (by rw[c];exact q);have V:=b.cur (1+j);rw[N]at V
  by_cases v:∃i,i<n/\j=(last+1+i)%count
  .obtain⟨i,hi,rfl⟩:=v;rw[C i hi]
   by_cases p:mask i=true
   .rw[aHP p];rw[Xx]at p;exact⟨aJU p,O i hi⟩
   .rw[aHM p];rcases V with k|⟨w,y,k,A⟩
    .rw[k];exact hs
    .obtain⟨i',eT,R,h4⟩:=K w y;have:=Pz (last:=last) (count:=count) hi eT uM uM;subst this;rw[Xx]at p;exact absurd (aHQ (A.trans h4)) p
  .rw[U j λi hi e=>v ⟨i,hi,e⟩];rcases V with k|⟨w,y,k,A⟩
   .rw[k];exact hs
   .obtain⟨i',eT,R,_⟩:=K w y;exact absurd ⟨i',eT,uM⟩ v
 have E:∀j,j<count->(P' j).n<=last\/∃i,i<n/\j=(last+1+i)%count/\mask i=true/\(P' j).n=last+1+i:=λj q=>by
  have hs:=h.le j (by rw[c];exact q)
  by_cases v:∃i,i<n/\j=(last+1+i)%count
  .obtain⟨i,hi,rfl⟩:=v;rw[C i hi]
   by_cases p:mask i=true
   .rw[aHP p];exact .inr ⟨i,hi,rfl,p,rfl⟩
   .rw[aHM p];exact .inl hs
  .rw[U j λi hi e=>v ⟨i,hi,e⟩];exact .inl hs
 have J:∀j,j<count->(P' j).n<=last+n:=λj q=>by
  rcases E j q with k|⟨i,hi,_,_,k⟩<;>omega
 have g:jq P' count base (Ls.map dL) last:=by
  have:=h.laid;rw[c]at this;exact this.congr λx k A=>U _ λi hi=>vx uM uM
 have HV:=h.og;rw[c]at HV;have fY:=h.rep;have s:=h.zero;rw[c]at fY s
 by_cases eF:∃i,i<n/\mask i≠true
 .left;obtain⟨L,ab,Kv,Q⟩:=Qv n eF
  have A9:∀(f:Nat) (o:List (List UInt8)),iH P' count f last [] o last=(o,last):=by
   intro f o
   suffices key:∀d i f z,i+d=L->iH P' count f (last+i) z o last=(o,last) by exact key L 0 f [] uM
   intro d
   induction d with
   |zero=>
    intro i f z hi;cases f with
    |zero=>rfl
    |succ f=>
     have hp:=C i uM;have:i=L:=uM
     subst this;rw[aHM Kv]at hp;have hs:=h.le ((last+1+i)%count) (by rw[c];exact aKq _ u);rw[iH,aHM (by rw[show last+i+1=last+1+i from uM,hp];omega)]
   |succ d ih=>
    intro i f z hi;cases f with
    |zero=>rfl
    |succ f=>
     have hp:=C i uM;rw[aHP (Q i uM)]at hp;have I:(P' ((last+i+1)%count)).n=last+i+1:=by rw[show last+i+1=last+1+i from uM,hp];rfl
     have e2:¬(P' ((last+i+1)%count)).last=true:=by
      rw[show last+i+1=last+1+i from uM,hp];unfold cO;simp;omega
     rw[iH,aHP I,aHM e2];exact ih (i+1) f _ uM
  have B:=GK g A9 count [] uM;rw[aIm]at B
  have S:last<=kG P' count base count:=by
   cases hL:Ls with
   |nil=>
    rw[hL]at g;have:last=base:=g;rw[this];exact qw P' count base 0 count (aJL _)
   |cons a r=>
    by_cases hz:last=0
    .rw[hz];exact aJL _
    .have hp:=g.WT (by rw[hL];simp);have:=Pn (P:=P') (count:=count) (base:=base) (j:=last%count) (aKq _ u) (by rw[hp];exact hz) (by rw[hp])
     rwa [hp]at this
  have hg:∀m,(kU (1+count) (D.aq.length-1-count) (cU [] Ls) kept Gk.fr).get D' m=(kU (1+count) (D.aq.length-1-count) (cU [] Ls) kept Gk.fr).get D m:=λm=>by
   rw[gN,gN,Mc _ uM]
  refine⟨kG P' count base count,P',⟨b.waits,by rw[b.len];exact Ic,by rw[b.len];exact F,Rb.trans h.head,by rw[b.len,c];exact Z,by rw[b.len,c];exact B,by rw[b.len,c],?_,te,S,uM,by rw[b.len,c];exact HV,h.small,?_,?_,h.root⟩,zD P' count base _ uM J count (aHK _)⟩
  .rw[b.len,c];intro j q;rcases E j q with k|⟨i,hi,k,A,R⟩
   .omega
   .exact Pn q uM (by rw[R,k])
  .rw[b.len,c];exact fY.congr (λm _=>hg m) rfl rfl rfl rfl rfl rfl b.len
  .rw[b.len,c];exact(hg 0).trans s
 .right
  have p:=λi hi=>by
   by_cases v:mask i=true
   .exact v
   .exact absurd ⟨i,hi,v⟩ eF
  have WU:jq P' count base ((Ls++[l]).map dL) (last+n):=by
   rw[aIQ,<-hn];exact g.snoc λi hi=>by rw[C i uM,aHP (p i uM),hn]
  have B:=GK WU (λf o=>by
   cases f with
   |zero=>rfl
   |succ f=>
    have:=J ((last+n+1)%count) (aKq _ u);rw[iH,aHM uM]) count [] uM
  rw[aIm]at B;obtain⟨Y,X⟩:=H.aeE b.len λj q=>Mc j uM;have I:=H.Yd h.og;rw[c]at Y X I;exact⟨P',⟨b.waits,by rw[b.len];exact Ic,by rw[b.len];exact F,Rb.trans h.head,by rw[b.len,c];exact Z,by rw[b.len,c];exact B,by rw[b.len,c];exact DX WU u J,by rw[b.len,c];exact J,uM,aHK _,zS,by rw[b.len,c];exact I,H.Py h.small,by rw[b.len,c];exact Y,by rw[b.len,c];exact X,H.root⟩⟩
end
def PK {l:List dN}{n:Nat}{s:iT}(h:n∉l.map (·.1)):rA (gX (ix l n s)) n=gX l:=by
 induction l with
 |nil=>simp[ix,gX,rA]
 |cons p r a=>
  simp only[aIt,aHJ,aJf]at h;simp only[ix,aHM h.1];show rA ((((p.1:Nat):Int),CV.agg (ai p.2))::gX (ix r n s)) n=(((p.1:Nat):Int),CV.agg (ai p.2))::gX r;simp only[rA];rw[aHM uM,a h.2]
def He {l:List Nat}(h:l.Nodup):(l.map Int.ofNat).Nodup:=by
 induction l with
 |nil=>simp
 |cons a l c=>
  rw[aHX]at h;rw[aIt,aHX];refine⟨λhh=>?_,c h.2⟩;obtain⟨b,d,e⟩:=aIk.1 hh;exact h.1 (by rw[<-Int.ofNat.inj e];exact d)
def Gl {a:List eK}{m:MZ}(h:cY a m):cY (ia a) m:=by
 unfold cY ia at*;rw[aKs];exact h
section
variable {st st':St}
def Ik {d:List eK}{s:List eK}{Ld Ls:List dN}(j:cY d (gX Ld))(z:cY s (gX Ls))(g:eK->Bool)(v:∀e,g e=true↔¬∃x∈s,x.1=e.1):cY ((ia d).filter g) (gX (Ld.filter (λe=>decide (e.1∉Ls.map (·.1))))):=by
 have u:∀n:Nat,(∃x∈s,x.1=I n)↔n∈Ls.map (·.1):=by
  intro n;obtain⟨w,o⟩:=sX z;constructor
  .rintro⟨x,f,e⟩;obtain⟨m,q,i⟩:=o x f;rw[e]at i;have:(n:Int)=(m:Int):=by cases i;rfl
   have:n=m:=uM
   rw[this];exact q
  .intro hn;have:Int.ofNat n∈jA s:=by rw[w];exact aIW hn
   unfold jA at this;obtain⟨x,f,e⟩:=aIk.1 this;obtain⟨m,q,i⟩:=o x f;refine⟨x,f,?_⟩;rw[i]at e⊢;have:(m:Int)=(n:Int):=e;rw[this]
 induction d generalizing Ld with
 |nil=>cases Ld with
  |nil=>rfl
  |cons p r=>simp[cY,gX]at j
 |cons e d y=>cases Ld with
  |nil=>simp[cY,gX]at j
  |cons p r=>
   have l:=j;simp only[cY,gX,aIt,aJl,aJD]at l;obtain⟨⟨a,b⟩,c⟩:=l;have hi:=y (Ld:=r) c;show cY (((e.1,e.2.1,0)::ia d).filter _) _;rw[aJa,aJa];have k:e.1=I p.1:=a
   by_cases h:p.1∈Ls.map (·.1)
   .rw[aHM (by rw[v];show¬¬∃x∈s,x.1=e.1;rw[k,u];exact λhh=>hh h),aHM TK];exact hi
   .rw[aHP (by rw[v];show¬∃x∈s,x.1=e.1;rw[k,u];exact h),aHP TK];show cY ((e.1,e.2.1,0)::_) (gX (p::_));simp only[cY,gX,aIt,k,b]
    congr 1
def VZ {c d:Nat}{Ld Ls:List dN}(w:IsMap st c (gX Ld))(u:IsMap st d (gX Ls))(H:c≠d)(O:Ld.length<=1000000)(s:∀n∈Ld.map (·.1),n<=1000000)(B:Ls.length<=1000000)(o:∀n∈Ls.map (·.1),n<=1000000)(C:∀e∈Ls,e.2.length=512)(r:c<st.nx):
 R 133 [.map c,.map d] st λ_ st'=>Kp [c] st st'/\st'.nx=st.nx/\IsMap st' c (gX (oN Ld Ls)):=by
 obtain⟨f,N,M,L,K⟩:=w.Of O s;obtain⟨es,g,s2,A,z⟩:=u.Of B o
 have l:IP 512 es:=by
  intro e D;have:(e.1,e.2.1)∈(gX Ls).map (λp=>(I p.1,p.2)):=by rw[<-g];exact aIW D
  obtain⟨q,v,y⟩:=aIk.1 this;unfold gX at v;obtain⟨x,k,rfl⟩:=aIk.1 v;simp only[aJD]at y;exact⟨ai x.2,y.2.symm,by simpa using C x k,bu _⟩
 have G:I0 133 [.map c,.map d] st=some (.ok .undef ⟨st.m.put c (some (.lmap (lp f es))),st.nx⟩):=by
  show Iy 512 [.map c,.map d] st=_;unfold Iy;simp only;rw[M,s2,aHP ⟨H,L,A,K,z,l⟩]
 refine SO G ?_;have J:(⟨st.m.put c (some (.lmap (lp f es))),st.nx⟩:St)=St.set st c (.lmap (lp f es)):=rfl;rw[J];refine⟨(Kp.refl _ st).set _ (.inl wb) r,rfl,.inr ⟨lp f es,an _ _ _,?_,?_⟩⟩
 .unfold lp oN;have h1:=Ik N g;have h2:=Gl g;unfold cY at*;rw[aIQ,h1,h2]
  .unfold gX;simp only[aIQ]
  .intro e;simp
 .have n1:=w.nd;have n2:=u.nd;rw[lA]at n1 n2⊢;have j:=iW n1;have i:=iW n2
  have:((oN Ld Ls).map (·.1)).Nodup:=by
   unfold oN;rw[aIQ,aIE];refine⟨List.Sublist.nodup (List.Sublist.map _ List.filter_sublist) j,i,λa F b E e=>?_⟩;obtain⟨x,k,rfl⟩:=aIk.1 F;have:=(aIR.1 k).2;simp only[aIP]at this;exact this (e▸E)
  exact He this
end
section
variable {st st':St} {p a:Nat} {lg:CV} {M:bR} {bd bn bi bc:Nat} {F:List Nat} {D:aU}
def VU (e:dN)(h:e.1<=2147483647)(d:e.2.length=512):(Oo e).length<=520:=by
 unfold Oo;have h1:=xS e.2;have c:=(kF e.1 h).2;have b:=re (n:=(jC e.2).length) uM;simp only[aHR];omega
def Lu (l:List dN)(h:∀e∈l,e.1<=2147483647/\e.2.length=512):(dL l).length<=520*l.length:=by
 induction l with
 |nil=>exact aHK _
 |cons e l b=>
  have h1:=VU e (h e wb).1 (h e wb).2;have h2:=b λx hx=>h x aba;have:dL (e::l)=Oo e++dL l:=rfl;rw[this,aHR,aIg];omega
structure ajc (N:List dN)(ks:List Nat):Prop where
 m:∀n∈ks,∃s,cZ N n=some s/\n<=100000/\s.length=512
def Uq {x:CV}{c:List Nat}{N:List dN}{K:List CV->St->Prop}(hP:bZ st p a lg {M with now:=N} bd bn bi bc)(jH:eA st)(hx:∀s,Kp [] st s->Sl s [] x 1 (cP c))(W:ajc N c)(yT:c.length<=1900)
 (hK:∀s rec,Kp [] st s->(∃o,Own s rec 1 5 (ai (dL (dK N c))) o/\∀b∈o,st.nx<=b/\b<s.nx)->K [.ptr p 0,rec,x,I c.length,I c.length] s):
 df (λf r Tk=>
 us (aj .lss (none) false (ay 4 f) (ay 3 f) r) λjK=>
 aC jK (
 Lim.idx 1 (ay 2 f) (ay 4 f) r λj7=>
 eQ 5 (ay 0 f) r λj9=>
 us (gj .int (.agg (zr 512)) false j9 j7 r) λjF=>
 upon (dp 173 (zr 512) r) λjB s7=>
 upon (aQ 512 jB jF s7) λ_ S=>
 ck (
 R 129 [(ay 1 f),j7] S λY q=>
 us (bT 512 1 jB none none q) λkM=>
 R 130 [kM,(.str [0])] q λV j=>
 us (dw .strOf V j) λmg=>
 R 128 [Y,mg] j λy G=>
 ((True)/\True)/\(True)/\
 us (aj .add (none) true (ay 4 f) (.int .i64 1) G) λqu=>
 Tk [(ay 0 f),y,(ay 2 f),(ay 3 f),qu] G)) (K f r)) [.ptr p 0,.ae,x,I c.length,I ((0:Nat):Int)] st:=by
 have AX:∀i,i<=c.length->(dL (dK N (c.take i))).length<=990000:=λi hi=>by
  have h1:=Lu (dK N (c.take i)) λe he=>by
   unfold dK at he;obtain⟨n,hn,rfl⟩:=aIk.1 he;obtain⟨s,h1,h2,h3⟩:=W.m n (aIw hn);simp only[h1,aJg];exact⟨uM,h3⟩
  have h2:(dK N (c.take i)).length<=1900:=by unfold dK;simp;omega
  omega
 refine bG (λfu Q s=>∃i rec,fu+i=c.length/\Q=[.ptr p 0,rec,x,I c.length,I i]/\Kp [] st s/\∃o,Own s rec 1 5 (ai (dL (dK N (c.take i)))) o/\∀b∈o,st.nx<=b/\b<s.nx) ?_ (n:=c.length) ⟨0,.ae,rfl,rfl,Kp.refl _ _,[],.inl ⟨rfl,rfl,rfl⟩,wb⟩;rintro fu Q s k ⟨i,rec,hi,rfl,w,o,l,J⟩ next;simp only[aK,aL];rw[dD,af,ag];have P:=hP.keep w wb;have A2:=P.main;have rE:=w.nx
 by_cases sD:i<c.length
 .rw[aHQ sD,aHP rfl];refine(hx s w).idx (i:=i) ado _ ?_;have e9:(cP c)[i]'(by simpa using sD)=I c[i]:=by simp[cP]
  rw[e9];obtain⟨d,hg,ad,jS⟩:=W.m c[i] (aIc sD);have O:=IsMap.lookup (.inl P.now) (.agg (zr 512)) false c[i] s rfl;rw[aHM xI,qx,show cZ ({M with now:=N}:bR).now c[i]=some d from hg]at O;simp only[aIZ,aJg]at O;simp only[eQ,bj,ah,af,az,aHN,A2,ar,aHI,aHG,aw,O];have vP:(ai d).length=512:=by simpa using jS
  refine gW vP (bu _) ?_;have Z:=(Kp.refl [] s).page (ai d);have g8:(St.set (St.new s (.cells (zr 512) 173 false)) s.nx (.cells (ai d) 173 false)).m.g s.nx=some (.cells (ai d) 173 false):=an _ _ _;have n8:(St.set (St.new s (.cells (zr 512) 173 false)) s.nx (.cells (ai d) 173 false)).nx=s.nx+1:=rfl;generalize St.set (St.new s (.cells (zr 512) 173 false)) s.nx (.cells (ai d) 173 false)=S at*;have H:=l.keep Z λb u=>⟨(J b u).2,wb⟩;rw[bD];have ak:=AX i uM;refine(tn (H.sl (X:=[]) λb u=>⟨wb,by have:=(J b u).2;omega⟩) uM uM).mono ?_;intro Y q v;have z:=v.kp;have n9:=z.nx;have zH:bT 512 1 (.ptr s.nx 0) none none q=.ok (.slice s.nx 0 512 512 0) q:=rfl;rw[zH,af];have g9:=(z.keep s.nx uM wb).trans g8;have ZK:lS q [s.nx] (.slice s.nx 0 512 512 0) 1 (ai d):=λX hX=>.inr ⟨s.nx,0,512,512,0,rfl,by simp[jS],⟨aHK _,.inl rfl⟩,.inr ⟨hX s.nx wb,uM,_,_,_,g9,uM,Yv⟩⟩;refine(TY ZK uM uM).mono ?_;rintro V j ⟨B,rfl⟩;rw[B.nil.str,af];have ac:=xS d;have ab:=zT c[i];have aa:=(kF c[i] uM).2;refine(D8 (v.sl [] wb) zS uM).mono ?_;intro y G Ra;refine⟨⟨afp,afp⟩,afp,?_⟩;rw[gJ i uM,af];have nK:=Ra.kp;obtain⟨L,q1,U,T⟩:=Ra
  have E:dL (dK N (c.take (i+1)))=dL (dK N (c.take i))++uv c[i]++(uv (jC d).length++jC d):=by
   rw[aIa sD];unfold dK;rw[aIQ,GL];simp[dL,Oo,hg]
  rw[<-E]at U;have A:Kp [] st _:=((w.trans Z wb).trans z wb).trans nK wb;exact next (fu-1) _ _ uM ⟨i+1,y,uM,rfl,A,L,U,λb u=>⟨by have:=(T b u).1;omega,(T b u).2⟩⟩
 .rw[aHL sD,aHM xI];rw[aHS uM]at l;have C:i=c.length:=by omega
  subst C;exact hK s rec w ⟨o,l,J⟩
end
