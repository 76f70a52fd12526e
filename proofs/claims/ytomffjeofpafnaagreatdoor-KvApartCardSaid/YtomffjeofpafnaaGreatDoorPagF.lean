import Derived.Test.YtomffjeofpafnaaGreatDoorPagE
namespace Lim
open Go
noncomputable section
set_option linter.defProp false
set_option maxRecDepth 100000
def OF (aH:Nat):GM:=⟨aH,1,0,[],λ_=>.blank⟩
def da:j9:=⟨0,1,0,0⟩
def P0z:Nat->Piece:=λ_=>⟨0,false,[]⟩
def abx (j:Nat):(P0z j).ok:=⟨by show 0<=_;omega,by show 0<=_;omega,λ_=>⟨rfl,rfl⟩,λh=>absurd rfl h⟩
def NG {D D':bf}(NA:64<=D.aA.length)(h65:D.aA.length<=65536)(hz:∀i,i<D.aA.length->D.cur i=lj)(hc:Calm D')(hw:D'.waits=[])(hl:D'.aA.length=D.aA.length)
 (ux:∀j,D'.cur j=if j=0 then dD 0 else if j=1+D.aA.length/4 then bR da else D.cur j):kT D' (OF (D.aA.length-1-D.aA.length/4)) 0 0 P0z [] da:=by
 have Xz:(sO (1+D.aA.length/4) (D.aA.length-1-D.aA.length/4) [] da []).get D' 0=bR da:=by
  rw[mg,ux,aET qE,aEW qE];rfl
 refine⟨hc,hw,qE,qE,by rw[ux,aEW rfl],λj hj=>?_,rfl,λj _=>aEQ _,qE,uG,uG,?_,by rw[hl];exact Xz,u7⟩
 .rw[hl]at hj;rw[ux,aET qE,aET qE,hz _ qE];exact⟨Um,abx j⟩
 .rw[hl];refine⟨rfl,rfl,rfl,rfl,rfl,λn=>Iff.rfl,aHo,⟨aEQ _,?_,?_,aHo,λn hn=>by cases hn⟩,?_,λn hn=>?_,λn hn=>?_,aer,rfl,aHo,λn hn=>by cases hn⟩
  .show 1<=D.aA.length-1-D.aA.length/4;omega
  .show D.aA.length-1-D.aA.length/4<=65536;omega
  .show 1+D.aA.length/4+(D.aA.length-1-D.aA.length/4)<=D'.aA.length;omega
  .have hn:n<1:=hn;have:n=0:=by omega
   subst this;show((sO _ _ [] da []).get D' 0).length=512;rw[Xz];exact gZ _
  .have h1:=hn.1;have h2:n<1:=hn.2.1;omega
def adr (aH:Nat)(h:1<=aH)(h2:aH<=65536):fA (OF aH) []:=⟨⟨aEQ _,h,h2,aHo,λn hn=>by cases hn⟩,.inl ⟨rfl,rfl⟩⟩
section
variable {st st':St} {a:Nat} {F:List Nat} {D:bf}
def NH (hd:dz st a F D)(j0:eH st)(hc:Calm D)(hw:D.waits=[])(NA:64<=D.aA.length)(hz:∀i,i<D.aA.length->D.cur i=lj):R 42 [.ptr a 0] st (Mj a F D (OF (D.aA.length-1-D.aA.length/4)) 0 st):=by
 refine bP ?_;rw[w42];have h65:=(show D.aA.length<=65536 from by obtain⟨_,_,_,_,_,_,_,h⟩:=hd;exact h.size);rw[cD,af,ag,aET u7];refine(vu hd).same ?_;have hlt:ai .lss none true (I D.aA.length) (.int .i64 64) st=.ok (.bool false) st:=Yl
 rw[hlt,af,ag,aET u7];refine(K1 hd qE).mono ?_;rintro _ s2 ⟨k2,p,bd,bn,bi,bc,rfl,hP2,oN⟩;have Fg:=hd.keep k2 uG;have n2:=k2.nx;rw[cV];refine(pU Fg).same ?_;simp only[aL,aM];refine bN (λfu vs s=>∃i,fu+i=D.aA.length/4/\vs=[.ptr a 0,.ptr p 0,I ((D.aA.length/4:Nat):Int),I i]/\Kp [] s2 s) ?_ (n:=D.aA.length/4) ⟨0,rfl,rfl,Kp.refl _ _⟩;rintro fu vs s k ⟨i,hi,rfl,hk⟩ next;simp only[aL,aM];rw[dC,af,ag];have hds:=Fg.keep hk uG;have yB:=hP2.keep hk uG;have Vs:=hk.fresh (k2.fresh j0);have e2:∀s,ai .neq (some .int) true (I 0) (.int .i64 0) s=.ok (.bool false) s:=λs=>rfl
 by_cases wR:i<D.aA.length/4
 .rw[aEV wR,aEW rfl]
  have e1:ai .add none true (.int .i64 1) (I i) s=.ok (I ((1+i:Nat):Int)) s:=by
   have:ai .add none true (I ((1:Nat):Int)) (I i) s=.ok (I ((1+i:Nat):Int)) s:=Oh
   exact this
  rw[e1,af]
  have ZL:D.read ((1+i:Nat):Int)=(0,lj):=by
   have:=hc.read (i:=1+i) qE;rw[hz _ qE]at this;exact this
  refine(zg hds ((1+i:Nat):Int)).mono ?_;intro v s5 hv;rw[ZL,aEW rfl]at hv;obtain⟨k5,_,b,rfl,gb,Ix,CX⟩:=hv;rw[aE,af,aN,aE,af,e2,af,ag,aET u7];have sl5:Sl s5 [] (.slice b 0 512 512 1) 1 (aj lj):=.inr ⟨b,0,512,512,1,rfl,by simp[pS],⟨aEQ _,.inr rfl⟩,.inr ⟨uG,CX,_,_,_,gb,by simp[pS],by rw[aFr,aEX (by simp[pS])]⟩⟩;have Rj:bo .slice (.slice b 0 512 512 1) s5=.ok (I ((512:Nat):Int)) s5:=rfl;rw[Rj,af];have Vh:=Ag (n:=512) (s:=s5) qE;rw[Vh,aS];have k6:Kp [] s5 (St.new s5 (.cells (aj (List.replicate 512 0)) 5 false)):=(Kp.refl [] s5).new _;have g6:(St.new s5 (.cells (aj (List.replicate 512 0)) 5 false)).m.g s5.nx=some (.cells (aj (List.replicate 512 0)) 5 false):=ao _ _;have n6:(St.new s5 (.cells (aj (List.replicate 512 0)) 5 false)).nx=s5.nx+1:=rfl;generalize St.new s5 (.cells (aj (List.replicate 512 0)) 5 false)=s6 at*;have sl6:Sl s6 [] (.slice s5.nx 0 512 512 0) 1 (aj (List.replicate 512 0)):=.inr ⟨s5.nx,0,512,512,0,rfl,uG,⟨aEQ _,.inl rfl⟩,.inr ⟨uG,qE,_,_,_,g6,uG,by rw[aFr,aEX uG]⟩⟩;refine(Sf (sl5.mono k6) sl6).same ?_;have hbq:(lj==List.replicate 512 0)=true:=beq_self_eq_true _;rw[hbq,cU,af,aFh,ag,aET u7,gH i qE,af];exact next (fu-1) _ _ qE ⟨i+1,qE,rfl,(hk.trans k5 uG).trans k6 uG⟩
 .rw[aEO wR,aET u7];have nD:bk [.int .i64 0,.int .i64 0,.int .i64 0,.int .i64 0] [(1,1,.int .i64 1)] s=.ok (.agg [I da.root,I da.used,I da.head,I da.free]) s:=rfl;rw[nD,af];have CR:=yB.main;have hp0:=yB.lt p uG
  have Ly:∀{s:St} {l:List CV} {o:Nat} {K:St->Prop},s.m.g p=some (.cells l 158 false)->o+4<=l.length->K (St.set s p (.cells (bD l o [I da.root,I da.used,I da.head,I da.free]) 158 false))->oK 4 o (.ptr p 0) (.agg [I da.root,I da.used,I da.head,I da.free]) s K:=by
   intro s l o K hg h3 hK;simp only[oK,bF,ah,af,aJ,hg,aW,aT,aER];exact⟨⟨rfl,rfl,h3⟩,hK⟩
  have XC:∀{s:St} {l:List CV} {K:CV->Prop},s.m.g p=some (.cells l 158 false)->10<=l.length->(l.drop 6).take 4=[I da.root,I da.used,I da.head,I da.free]->K (.agg [I da.root,I da.used,I da.head,I da.free])->AV 4 6 (.ptr p 0) s K:=by
   intro s l K hg h3 h4 hK;unfold AV;rw[bF,af,ah,af,gF (n:=4) hg qE,af,aER,h4];exact hK
  refine Ly CR uG ?_;refine XC (ar _ _ _) (by simp[bD]) rfl ?_;refine Ly (ar _ _ _) (by simp[bD]) ?_;rw[set_set];refine XC (ar _ _ _) (by simp[bD]) rfl ?_;have rX:=yB.nd;simp only[aFd,aEP,aFy,aGt,aGk]at rX
  have yV:cP (St.set s p (.cells (bD (bD [.ptr a 0,.bA,I (eB D.aA.length).first,I (eB D.aA.length).aH,.map bd,.map bn,I (eB D.aA.length).kept.root,I (eB D.aA.length).kept.used,I (eB D.aA.length).kept.head,I (eB D.aA.length).kept.free,I (eB D.aA.length).m.root,I (eB D.aA.length).m.used,I (eB D.aA.length).m.head,I (eB D.aA.length).m.free,.map bi,.map bc] 6 [I da.root,I da.used,I da.head,I da.free]) 10 [I da.root,I da.used,I da.head,I da.free]) 158 false)) p a .bA {eB D.aA.length with kept:=da,m:=da} bd bn bi bc:=
   ⟨ar _ _ _,yB.dirty.mono (al _ _ _ _ (aFL rX.1.1)),yB.now.mono (al _ _ _ _ (aFL rX.1.2.1)),yB.idle.mono (al _ _ _ _ (aFL rX.1.2.2.1)),yB.count.mono (al _ _ _ _ (aFL rX.1.2.2.2)),yB.nd,yB.lt,⟨rfl,rfl,rfl⟩⟩
  have qx:Kp [p] s (St.set s p (.cells (bD (bD [.ptr a 0,.bA,I (eB D.aA.length).first,I (eB D.aA.length).aH,.map bd,.map bn,I (eB D.aA.length).kept.root,I (eB D.aA.length).kept.used,I (eB D.aA.length).kept.head,I (eB D.aA.length).kept.free,I (eB D.aA.length).m.root,I (eB D.aA.length).m.used,I (eB D.aA.length).m.head,I (eB D.aA.length).m.free,.map bi,.map bc] 6 [I da.root,I da.used,I da.head,I da.free]) 10 [I da.root,I da.used,I da.head,I da.free]) 158 false)):=(Kp.refl _ s).set _ (.inl uG) hp0;generalize St.set s p (.cells (bD (bD [.ptr a 0,.bA,I (eB D.aA.length).first,I (eB D.aA.length).aH,.map bd,.map bn,I (eB D.aA.length).kept.root,I (eB D.aA.length).kept.used,I (eB D.aA.length).kept.head,I (eB D.aA.length).kept.free,I (eB D.aA.length).m.root,I (eB D.aA.length).m.used,I (eB D.aA.length).m.head,I (eB D.aA.length).m.free,.map bi,.map bc] 6 [I da.root,I da.used,I da.head,I da.free]) 10 [I da.root,I da.used,I da.head,I da.free]) 158 false)=dq at*;have wS:=hd.lt;have anV:=oN p uG;have aao:=hds.keep qx λb hb hh=>by have:=wS b hb;simp at hh;omega
  have rO:=hk.nx;have aos:=qx.nx;refine(El (m:=da) (by intro n hn;simp[lQ,da]at hn;rcases hn with rfl|rfl|rfl|rfl<;>omega)).mono ?_;rintro _ bO ⟨rfl,qg⟩;have Ow:=gZ da;have Bs:(aj (bR da)).length=512:=by simpa using Ow
  refine lD Bs (bI _) ?_;have wJ:=qg.page (aj (bR da));have Iz:(St.set (St.new bO (.cells (zr 512) 173 false)) bO.nx (.cells (aj (bR da)) 173 false)).m.g bO.nx=some (.cells (aj (bR da)) 173 false):=ar _ _ _;have n14:(St.set (St.new bO (.cells (zr 512) 173 false)) bO.nx (.cells (aj (bR da)) 173 false)).nx=bO.nx+1:=rfl;generalize St.set (St.new bO (.cells (zr 512) 173 false)) bO.nx (.cells (aj (bR da)) 173 false)=eT at*;have VD:=yV.keep wJ uG;have aan:=aao.keep wJ uG;have Z0:=VD.main;have XB:=wJ.fresh (qx.fresh Vs);have Bq:bY 512 1 (.ptr bO.nx 0) none none eT=.ok (.slice bO.nx 0 512 512 0) eT:=rfl;rw[bG,bF,af,ah,af,aB,Z0,aq];simp only[aER,aEN,aEL,ay,Bq,af];have Om:=qg.nx;have ZA:Sl eT F (.slice bO.nx 0 512 512 0) 1 (aj (bR da)):=.inr ⟨bO.nx,0,512,512,0,rfl,by simp[Ow],⟨aEQ _,.inl rfl⟩,.inr ⟨λhh=>by have:=wS _ hh;omega,qE,_,_,_,Iz,qE,O4⟩⟩;refine(vS aan (i:=((1+D.aA.length/4:Nat):Int)) XB (by rw[hw];simp) ZA Ow).mono ?_;rintro _ gY ⟨rfl,nz,F2,Nt,xq⟩;obtain⟨w1,w2,w3,w4,w5,w6⟩:=hc.write (i:=1+D.aA.length/4) (s:=bR da) qE Ow (by unfold bf.AA;rw[hw];simp);generalize hD1:(D.write ((1+D.aA.length/4:Nat):Int) (bR da)).2=D1 at*;rw[w1];refine⟨⟨aer,aer⟩,aer,?_⟩;rw[e2,af,ag,aET u7];refine(wT Nt (by rw[w5,hw];simp)).mono ?_;rintro _ bU ⟨rfl,zn,F3,apO,EN⟩;obtain⟨f1,f2,f3,f4,f5⟩:=w2.flush w4;generalize hD2:D1.flush.2=D2 at*;rw[f1,e2,af,ag,aET u7];have XA:=zn.fresh (nz.fresh XB);refine(LO XA apO (by rw[f4];simp) (base:=0) qE).mono ?_;rintro _ jd ⟨rfl,CM,F4,Vx,hF4⟩;obtain⟨g1,g2,g3,g4,g5⟩:=f2.head (by unfold bf.AA;rw[f4];simp) (by rw[f3,w3];omega) 0;generalize hD3:(D2.head 0).2=D3 at*;rw[g1,e2,af,ag,aET u7];have Np:D3.aA.length=D.aA.length:=by rw[g3,f3,w3]
  have ux:∀j,D3.cur j=if j=0 then dD 0 else if j=1+D.aA.length/4 then bR da else D.cur j:=λj=>by
   rw[g5]
   by_cases hj:j=0
   .rw[aEW hj,aEW hj]
   .rw[aET hj,aET hj,f5,w6]
  have mU:=NG NA h65 hz g2 g4 Np ux;refine(pU Vx).same ?_;have agk:=CM.fresh XA;have hRd:tA D3 ⟨1,D3.aA.length/4,0,0,0⟩ P0z:=⟨by show 0<D3.aA.length/4;omega,by show 1+D3.aA.length/4<=_;omega,qE,aHt _,λj hj=>mU.qL j hj⟩;refine(zU (base:=0) agk Vx g2.dead hRd qE).mono ?_;rintro _ vj ⟨r,xo,Fo,Gg,rfl,k19,lR,LC,hFo,hr⟩;have n15:=nz.nx;have n16:=zn.nx;have n17:=CM.nx;have n19:=k19.nx;have ayi:=wJ.nx
  have XT:∀b∈F4,b∈F\/eT.nx<=b:=λb hb=>by
   rcases hF4 b hb with h1|h1
   .rcases EN b h1 with h2|h2
    .exact xq b h2
    .right;omega
   .right;omega
  have aha:∀b∈F3,b∈F\/eT.nx<=b:=λb hb=>by
   rcases EN b hb with h2|h2
   .exact xq b h2
   .right;omega
  have AJ:=hP2.lt
  have xL:∀(X:List Nat),(∀b∈X,b∈F\/eT.nx<=b)->∀b∈[p,bd,bn,bi,bc],b∉X:=λX hX b hb hh=>by
   have h1:=AJ b hb;have h2:=oN b hb;rcases hX b hh with h3|h3
   .have:=wS b h3;omega
   .omega
  have Ho:=(((VD.keep nz (xL F ael)).keep zn (xL F2 xq)).keep CM (xL F3 aha)).keep k19 uG;have apN:=Vx.keep k19 uG;rw[aE,af,aN,aE,af,aN,aN,aE,af,e2,af,ag,aET u7];have aoy:=Ho.main;have aob:=Ho.lt p uG;simp only[oK,bF,ah,af,aER];rw[aJ,aoy,aW];refine⟨⟨rfl,rfl,uG⟩,?_⟩;have QH:∀T,Kp [p] vj (St.set vj p (.cells T 158 false)):=λT=>(Kp.refl _ vj).set _ (.inl uG) aob;have h1p:=AJ p uG;have h1d:=AJ bd uG;have h1n:=AJ bn uG;have h1i:=AJ bi uG;have h1c:=AJ bc uG;have aqF:=Vx.lt;have G9:=mU.rep;rw[Np]at G9;refine⟨⟨p,a,.ptr r 0,bd,bn,bi,bc,F4,D3,[],da,1+D.aA.length/4⟩,rfl,rfl,⟨{eB D.aA.length with kept:=da,m:=da},⟨ar _ _ _,Ho.dirty.mono (al _ _ _ _ (aFL rX.1.1)),Ho.now.mono (al _ _ _ _ (aFL rX.1.2.1)),Ho.idle.mono (al _ _ _ _ (aFL rX.1.2.2.1)),Ho.count.mono (al _ _ _ _ (aFL rX.1.2.2.2)),Ho.nd,Ho.lt,⟨rfl,rfl,rfl⟩⟩,G9,apN.keep (QH _) λb hb hh=>?_,g2.dead,λb hb hh=>?_,rfl,rfl,rfl⟩,⟨⟨0,0,P0z,[],r,mU,aEQ _,rfl,?_,?_,λn=>rfl⟩,by show 1+D.aA.length/4=1+D3.aA.length/4;rw[Np],uG,uG⟩,?_,?_,by show st.nx<=p;omega,g2,Np,r,rfl,qE⟩
  .exact xL F4 XT p uG (by have:b=p:=by simpa using hh
                           rw[<-this];exact hb)
  .exact xL F4 XT b hh hb
  .have:=(mU.opened).2;rw[this]at lR;exact lR.keep (QH _) vR
  .unfold PI.all;simp only[aEP,aGk];exact⟨qE,qE,qE,qE,qE,λhh=>by have:=aqF r hh;omega⟩
  .have q0:Kp F st s:=(k2.trans hk uG).mono uG;have q1:=(q0.trans qx (by intro q hq;right;simp at hq;omega)).trans wJ uG;have q2:=q1.trans nz ael;have q3:=q2.trans zn λq hq=>(xq q hq).imp id λh=>by omega
   have q4:=q3.trans CM λq hq=>(aha q hq).imp id λh=>qE
   exact(q4.trans k19 uG).trans (QH _) (by intro q hq;right;simp at hq;omega)
  .intro b hb;unfold PI.all at hb;simp only[aEP]at hb;have h2d:=oN bd uG;have h2n:=oN bn uG;have h2i:=oN bi uG;have h2c:=oN bc uG;rcases hb with hb|hb|hb|hb|hb|hb
   .right;omega
   .right;omega
   .right;omega
   .right;omega
   .right;omega
   .rcases XT b hb with h1|h1
    .left;exact h1
    .right;omega
end
section
variable {rec:List UInt8}{last:Nat}{D:bf}{base:Nat}{P:Nat->Piece}{M:bZ}{D':bf}{G:GM}
def bf.Fu (D:bf)(L:List (Nat×jU))(w:Nat×jU)(h:(D.writes L).1=0)(h2:((D.writes L).2.write w.1 w.2).1=0):D.writes (L++[w])=(0,((D.writes L).2.write w.1 w.2).2):=by
 induction L generalizing D with
 |nil=>
  simp only[bf.writes]at h h2;simp only[aFt,bf.writes];rw[aEW h2]
 |cons v L ih=>
  simp only[aFS,bf.writes]at h h2⊢
  by_cases hv:(D.write v.1 v.2).1=0
  .rw[aEW hv]at h h2⊢;rw[aEW hv];exact ih _ h h2
  .rw[aET hv]at h;exact absurd h hv
structure SR (D D':bf)(count:Nat)(P':Nat->Piece)(k:Nat):Prop where
 calm:Calm D'
 AA:D'.AA
 aA:D'.aA.length=D.aA.length
 waits:D'.waits.length=D.waits.length+k
 log:∀j,j<count->D'.cur (1+j)=(P' j).cC/\(P' j).ok
 zero:D'.cur 0=D.cur 0
 rest:∀j,1+count<=j->D'.cur j=D.cur j
def P6 {i:Nat}(hi:i<bt rec.length)(hl:last<=1000000000)(hp:bt rec.length<=1000000):(db rec last (bt rec.length) i).ok/\(db rec last (bt rec.length) i).cC.length=512:=by
 have hlen:(db rec last (bt rec.length) i).data.length<=501:=acj
 refine⟨⟨acj,hlen,λh=>absurd h (by unfold db;simp),λ_ h=>?_⟩,Piece.qK _ hlen⟩;have ij:¬i+1=bt rec.length:=by unfold db at h;simpa using h
 have h2:=Gh (len:=rec.length) (i:=i+1) qE;unfold db;simp;omega
def Ms {count top:Nat}(hc:Calm D)(hw:D.AA)(h0:0<count)(Ns:1+count<=D.aA.length)(aoI:∀j,j<count->D.cur (1+j)=(P j).cC/\(P j).ok)(hl:last<=1000000000)(hp:bt rec.length<=1000000):
 ∀k,k<=bt rec.length->(D.writes ((List.range k).map (RingM.oL ⟨1,count,base,last,top⟩ rec))).1=0/\SR D (D.writes ((List.range k).map (RingM.oL ⟨1,count,base,last,top⟩ rec))).2 count (wg P count rec last k) k:=by
 intro k
 induction k with
 |zero=>intro _;exact⟨rfl,hc,hw,rfl,rfl,aoI,rfl,λ_ _=>rfl⟩
 |succ k ih=>
  intro hk;obtain⟨i1,i2⟩:=ih qE;obtain⟨p1,p2⟩:=P6 (rec:=rec) (last:=last) (i:=k) qE hl hp;have Vg:(last+1+k)%count<count:=Nat.mod_lt _ h0;rw[List.range_succ,aFR,aFv,List.map_nil];generalize hL:(List.range k).map (RingM.oL ⟨1,count,base,last,top⟩ rec)=L at*;have AH:RingM.oL ⟨1,count,base,last,top⟩ rec k=(1+(last+1+k)%count,(db rec last (bt rec.length) k).cC):=rfl;obtain⟨a1,a2,a3,a4,a5,a6⟩:=i2.calm.write (i:=1+(last+1+k)%count) (s:=(db rec last (bt rec.length) k).cC) (by rw[i2.aA];omega) p2 i2.AA;have e:=D.Fu L (RingM.oL ⟨1,count,base,last,top⟩ rec k) i1 (by rw[AH];exact a1);rw[e,AH];refine⟨rfl,a2,a4,by show(bf.aA _).length=_;rw[a3];exact i2.aA,by show(bf.waits _).length=_;rw[a5,i2.waits];omega,λj hj=>?_,?_,λj hj=>?_⟩
  .show bf.cur _ (1+j)=_/\_;rw[a6];simp only[wg]
   by_cases h:j=(last+1+k)%count
   .rw[aEW qE,aEW h];exact⟨rfl,p1⟩
   .rw[aET qE,aET h];exact i2.log j hj
  .show bf.cur _ 0=_;rw[a6,aET qE];exact i2.zero
  .show bf.cur _ j=_;rw[a6,aET qE];exact i2.rest j hj
def uc.abf {M':bZ}(h:uc M D G)(hg:∀n,0<n->n<M.aH->M'.get D' n=M.get D n)(h0:(M'.get D' 0).length=512)(h1:M'.aH=M.aH)(h2:M'.m=M.m)(h3:M'.idle=G.fr)(h4:M'.now=[])(h5:M'.count=[])(h6:M'.first=M.first)(h7:D'.aA.length=D.aA.length):uc M' D' G:=by
 have hm:=h.ok.jL;refine⟨h1.trans h.aH,by rw[h2];exact h.used,by rw[h2];exact h.root,by rw[h2];exact h.head,by rw[h2];exact h.free,λn=>by rw[h3],by rw[h3];exact h.ok.nd,h.ok,by rw[h6,h1,h7];exact h.fits,λn hn=>?_,λn hn=>?_,?_,by rw[h4,h5];rfl,by rw[h5];exact aHo,by rw[h5];intro n hn;cases hn⟩
 .by_cases hz:n=0
  .rw[hz];exact h0
  .rw[hg n qE (by rw[h.aH];omega)];exact h.len n hn
 .rw[hg n hn.1 (by rw[h.aH];have:=hn.2.1;omega)];exact h.cont n hn
 .have key:∀l:List Nat,(∀n∈l,0<n/\n<M.aH)->OG M D l->OG M' D' l:=by
   intro l
   induction l with
   |nil=>intro _ _;trivial
   |cons n r ih=>intro h1 h2;exact⟨(hg n (h1 n uG).1 (h1 n uG).2).trans h2.1,ih (λm hm=>h1 m (by simp[hm])) h2.2⟩
  exact key _ (λn hn=>⟨(h.ok.fr n hn).1,by rw[h.aH];have:=(h.ok.fr n hn).2;omega⟩) h.chain
def Cw:∀(l d:List eO) (n:Nat),(l.map (·.1)).Nodup->dt (oL d l) n=(dt l n).or (dt d n):=by
 intro l
 induction l with
 |nil=>intro d n _;rfl
 |cons e l ih=>
  intro d n hn;rw[aFv,aFd]at hn;show dt (oL (ig d e.1 e.2) l) n=_;rw[ih _ n hn.2,pV];simp only[dt]
  by_cases h:n=e.1
  .subst h;rw[aEW rfl,aEW rfl,l6.2 hn.1];rfl
  .rw[aET h,aET h]
def kT.abg {Gk:GM}{Ls:List (List eO)}{kept:j9}{l:List eO}(h:kT D Gk base last P Ls kept)(hr:uc M D G)(hf:M.first=1+D.aA.length/4)(oI:M.aH=D.aA.length-1-D.aA.length/4)
 (BX:∀n,dt M.dirty n=dt (eo [] Ls) n) (hl:(l.map (·.1)).Nodup) (uw:∀n,dt l n=if n=0 then some (bR M.m)else dt M.now n) (LN:∀e∈l,e.1<M.aH/\e.2.length=512) (Ey:(gf l).length<=1000000) (uP:bt (gf l).length+(last-base)<=D.aA.length/4) (AG:M.m.root<2147483648)
 (wL:SR D D' (D.aA.length/4) (wg P (D.aA.length/4) (gf l) last (bt (gf l).length)) (bt (gf l).length)):kT D'.flush.2 G base (last+bt (gf l).length) (wg P (D.aA.length/4) (gf l) last (bt (gf l).length)) (Ls++[l]) M.m:=by
 obtain⟨f1,f2,f3,f4,f5⟩:=wL.calm.flush wL.AA;have hlen:=f3.trans wL.aA;have NA:=h.least
 have hg:∀n,(sO (1+D.aA.length/4) (D.aA.length-1-D.aA.length/4) (eo [] (Ls++[l])) M.m G.fr).get D'.flush.2 n=if n=0 then bR M.m else M.get D n:=λn=>by
  rw[mg,qP,Cw l _ n hl,uw]
  by_cases hn:n=0
  .rw[aEW hn,aEW hn];rfl
  .rw[aET hn,aET hn,f5,wL.rest _ qE,<-BX];unfold bZ.get;rw[hf];cases dt M.now n with
   |some s=>rfl
   |none=>cases dt M.dirty n<;>rfl
 refine⟨f2,f4,by rw[hlen];exact h.least,by rw[hlen];exact h.jL,by rw[f5,wL.zero];exact h.head,λj hj=>?_,?_,λj hj=>?_,by rw[hlen];have:=h.laid.le.1;omega,λl' Is e he=>?_,λl' Is=>?_,?_,?_,AG⟩
 .rw[hlen]at hj;rw[f5];exact wL.log j hj
 .rw[hlen,aFR];exact h.laid.put uP
 .rw[hlen]at hj;exact YI h.le _ (aEQ _) j hj
 .rw[hlen];rcases aEY.1 Is with h1|h1
  .exact h.xQ l' h1 e he
  .have:l'=l:=by simpa using h1
   subst this;have:=LN e he;omega
 .rcases aEY.1 Is with h1|h1
  .exact h.small l' h1
  .have:l'=l:=by simpa using h1
   rw[this];exact Ey
 .rw[hlen];refine hr.abf (λn h1 h2=>by rw[hg,aET qE]) (by rw[hg,aEW rfl];exact gZ _) oI.symm rfl rfl rfl rfl hf.symm hlen
 .rw[hlen,hg,aEW rfl]
end
def PH {l:List eO}{n:Nat}{s:jU}(h:n∉l.map (·.1)):qY (gP (ig l n s)) n=gP l:=by
 induction l with
 |nil=>simp[ig,gP,qY]
 |cons p r ih=>
  simp only[aFv,aEP,aGk]at h;simp only[ig,aET h.1];show qY ((((p.1:Nat):Int),CV.agg (aj p.2))::gP (ig r n s)) n=(((p.1:Nat):Int),CV.agg (aj p.2))::gP r;simp only[qY];rw[aET qE,ih h.2]
def Gw {l:List Nat}(h:l.Nodup):(l.map Int.ofNat).Nodup:=by
 induction l with
 |nil=>simp
 |cons a l ih=>
  rw[aFd]at h;rw[aFv,aFd];refine⟨λhh=>?_,ih h.2⟩;obtain⟨b,hb,e⟩:=aFq.1 hh;exact h.1 (by rw[<-Int.ofNat.inj e];exact hb)
def FF {es:List eS}{m:MZ}(h:cY es m):cY (gT es) m:=by
 unfold cY gT at*;rw[aHl];exact h
section
variable {st st':St}
def Hx {d:List eS}{s:List eS}{Ld Ls:List eO}(hd:cY d (gP Ld))(hs:cY s (gP Ls))(g:eS->Bool)(hg:∀e,g e=true↔¬∃x∈s,x.1=e.1):cY ((gT d).filter g) (gP (Ld.filter (λe=>decide (e.1∉Ls.map (·.1))))):=by
 have hk:∀n:Nat,(∃x∈s,x.1=I n)↔n∈Ls.map (·.1):=by
  intro n;obtain⟨k1,k2⟩:=sN hs;constructor
  .rintro⟨x,hx,e⟩;obtain⟨m,hm,e2⟩:=k2 x hx;rw[e]at e2;have:(n:Int)=(m:Int):=by cases e2;rfl
   have:n=m:=qE
   rw[this];exact hm
  .intro hn;have:Int.ofNat n∈jr s:=by rw[k1];exact aFX hn
   unfold jr at this;obtain⟨x,hx,e⟩:=aFq.1 this;obtain⟨m,hm,e2⟩:=k2 x hx;refine⟨x,hx,?_⟩;rw[e2]at e⊢;have:(m:Int)=(n:Int):=e;rw[this]
 induction d generalizing Ld with
 |nil=>cases Ld with
  |nil=>rfl
  |cons p r=>simp[cY,gP]at hd
 |cons e d ih=>cases Ld with
  |nil=>simp[cY,gP]at hd
  |cons p r=>
   have Fh:=hd;simp only[cY,gP,aFv,aGn,aGA]at Fh;obtain⟨⟨a,b⟩,c⟩:=Fh;have hi:=ih (Ld:=r) c;show cY (((e.1,e.2.1,0)::gT d).filter _) _;rw[aGo,aGo];have a':e.1=I p.1:=a
   by_cases h:p.1∈Ls.map (·.1)
   .rw[aET (by rw[hg];show¬¬∃x∈s,x.1=e.1;rw[a',hk];exact λhh=>hh h),aET OY];exact hi
   .rw[aEW (by rw[hg];show¬∃x∈s,x.1=e.1;rw[a',hk];exact h),aEW OY];show cY ((e.1,e.2.1,0)::_) (gP (p::_));simp only[cY,gP,aFv,a',b]
    congr 1
def VT {bd bs:Nat}{Ld Ls:List eO}(hd:IsMap st bd (gP Ld))(hs:IsMap st bs (gP Ls))(ij:bd≠bs)(Iv:Ld.length<=1000000)(hdk:∀n∈Ld.map (·.1),n<=1000000)(lq:Ls.length<=1000000)(hsk:∀n∈Ls.map (·.1),n<=1000000)(hv:∀e∈Ls,e.2.length=512)(hlt:bd<st.nx):
 R 133 [.map bd,.map bs] st λ_ st'=>Kp [bd] st st'/\st'.nx=st.nx/\IsMap st' bd (gP (nZ Ld Ls)):=by
 obtain⟨ed,d1,d2,d3,d4⟩:=hd.NC Iv hdk;obtain⟨es,s1,s2,s3,s4⟩:=hs.NC lq hsk
 have hvg:HZ 512 es:=by
  intro e he;have:(e.1,e.2.1)∈(gP Ls).map (λp=>(I p.1,p.2)):=by rw[<-s1];exact aFX he
  obtain⟨q,hq,e2⟩:=aFq.1 this;unfold gP at hq;obtain⟨x,hx,rfl⟩:=aFq.1 hq;simp only[aGA]at e2;exact⟨aj x.2,e2.2.symm,by simpa using hv x hx,bI _⟩
 have hI:I0 133 [.map bd,.map bs] st=some (.ok .undef ⟨st.m.put bd (some (.lmap (kO ed es))),st.nx⟩):=by
  show HI 512 [.map bd,.map bs] st=_;unfold HI;simp only;rw[d2,s2,aEW ⟨ij,d3,s3,d4,s4,hvg⟩]
 refine SU hI ?_;have Ez:(⟨st.m.put bd (some (.lmap (kO ed es))),st.nx⟩:St)=St.set st bd (.lmap (kO ed es)):=rfl;rw[Ez];refine⟨(Kp.refl _ st).set _ (.inl uG) hlt,rfl,.inr ⟨kO ed es,ar _ _ _,?_,?_⟩⟩
 .unfold kO nZ;have h1:=Hx d1 s1;have h2:=FF s1;unfold cY at*;rw[aFR,h1,h2]
  .unfold gP;simp only[aFR]
  .intro e;simp
 .have n1:=hd.nd;have n2:=hs.nd;rw[kW]at n1 n2⊢;have n1':=iP n1;have n2':=iP n2
  have:((nZ Ld Ls).map (·.1)).Nodup:=by
   unfold nZ;rw[aFR,aFM];refine⟨List.Sublist.nodup (List.Sublist.map _ List.filter_sublist) n1',n2',λa ha b hb e=>?_⟩;obtain⟨x,hx,rfl⟩:=aFq.1 ha;have:=(aGm.1 hx).2;simp only[aGa]at this;exact this (e▸hb)
  exact Gw this
end
section
variable {st st':St} {p a:Nat} {lg:CV} {M:bZ} {bd bn bi bc:Nat} {F:List Nat} {D:bf}
def VM (e:eO)(h:e.1<=2147483647)(h2:e.2.length=512):(NL e).length<=520:=by
 unfold NL;have h1:=xv e.2;have h3:=(kh e.1 h).2;have h4:=qF (n:=(jv e.2).length) qE;simp only[aEU];omega
def KL (l:List eO)(h:∀e∈l,e.1<=2147483647/\e.2.length=512):(gf l).length<=520*l.length:=by
 induction l with
 |nil=>exact aEQ _
 |cons e l ih=>
  have h1:=VM e (h e uG).1 (h e uG).2;have h2:=ih λx hx=>h x Yi;have:gf (e::l)=NL e++gf l:=rfl;rw[this,aEU,aFp];omega
structure ahX (N:List eO)(ks:List Nat):Prop where
 m:∀n∈ks,∃s,dt N n=some s/\n<=100000/\s.length=512
def Us {x:CV}{ks:List Nat}{N:List eO}{K:List CV->St->Prop}(hP:cP st p a lg {M with now:=N} bd bn bi bc)(j0:eH st)(hx:∀s,Kp [] st s->Sl s [] x 1 (cJ ks))(mr:ahX N ks)(AM:ks.length<=1900)
 (hK:∀s rec,Kp [] st s->(∃Fr,Own s rec 1 5 (aj (gf (dZ N ks))) Fr/\∀b∈Fr,st.nx<=b/\b<s.nx)->K [.ptr p 0,rec,x,I ks.length,I ks.length] s):
 cZ (λuF s6 WO=>
 us (ai .lss (none) false (au 4 uF) (au 3 uF) s6) λiJ=>
 aD iJ (
 Lim.idx 1 (au 2 uF) (au 4 uF) s6 λjt=>
 fB 5 (au 0 uF) s6 λjz=>
 us (gN .int (.agg (zr 512)) false jz jt s6) λiY=>
 upon (du 173 (zr 512) s6) λjb s7=>
 upon (aR 512 jb iY s7) λ_ s8=>
 bX (
 R 129 [(au 1 uF),jt] s8 λkH s9=>
 us (bY 512 1 jb none none s9) λkg=>
 R 130 [kg,(.str [0])] s9 λlu s10=>
 us (cW .strOf lu s10) λlV=>
 R 128 [kH,lV] s10 λlU dq=>
 ((True)/\True)/\(True)/\
 us (ai .add (none) true (au 4 uF) (.int .i64 1) dq) λpN=>
 WO [(au 0 uF),lU,(au 2 uF),(au 3 uF),pN] dq)) (K uF s6)) [.ptr p 0,.ae,x,I ks.length,I ((0:Nat):Int)] st:=by
 have vO:∀i,i<=ks.length->(gf (dZ N (ks.take i))).length<=990000:=λi hi=>by
  have h1:=KL (dZ N (ks.take i)) λe he=>by
   unfold dZ at he;obtain⟨n,hn,rfl⟩:=aFq.1 he;obtain⟨s,h1,h2,h3⟩:=mr.m n (aFz hn);simp only[h1,aGi];exact⟨qE,h3⟩
  have h2:(dZ N (ks.take i)).length<=1900:=by unfold dZ;simp;omega
  omega
 refine bN (λfu vs s=>∃i rec,fu+i=ks.length/\vs=[.ptr p 0,rec,x,I ks.length,I i]/\Kp [] st s/\∃Fr,Own s rec 1 5 (aj (gf (dZ N (ks.take i)))) Fr/\∀b∈Fr,st.nx<=b/\b<s.nx) ?_ (n:=ks.length) ⟨0,.ae,rfl,rfl,Kp.refl _ _,[],.inl ⟨rfl,rfl,rfl⟩,uG⟩;rintro fu vs s k ⟨i,rec,hi,rfl,hk,Fr,own,RO⟩ next;simp only[aL,aM];rw[dC,af,ag];have yB:=hP.keep hk uG;have CR:=yB.main;have rO:=hk.nx
 by_cases wR:i<ks.length
 .rw[aEV wR,aEW rfl];refine(hx s hk).idx (i:=i) adp _ ?_;have e9:(cJ ks)[i]'(by simpa using wR)=I ks[i]:=by simp[cJ]
  rw[e9];obtain⟨sec,hg,hnp,lq⟩:=mr.m ks[i] (aFj wR);have AL:=IsMap.lookup (.inl yB.now) (.agg (zr 512)) false ks[i] s rfl;rw[aET u7,wc,show dt ({M with now:=N}:bZ).now ks[i]=some sec from hg]at AL;simp only[aGc,aGi]at AL;simp only[fB,bF,ah,af,aB,aER,CR,aq,aEN,aEL,ay,AL];have Bs:(aj sec).length=512:=by simpa using lq
  refine lD Bs (bI _) ?_;have k8:=(Kp.refl [] s).page (aj sec);have g8:(St.set (St.new s (.cells (zr 512) 173 false)) s.nx (.cells (aj sec) 173 false)).m.g s.nx=some (.cells (aj sec) 173 false):=ar _ _ _;have n8:(St.set (St.new s (.cells (zr 512) 173 false)) s.nx (.cells (aj sec) 173 false)).nx=s.nx+1:=rfl;generalize St.set (St.new s (.cells (zr 512) 173 false)) s.nx (.cells (aj sec) 173 false)=s8 at*;have alZ:=own.keep k8 λb hb=>⟨(RO b hb).2,uG⟩;rw[bG];have atZ:=vO i qE;refine(th (alZ.sl (X:=[]) λb hb=>⟨uG,by have:=(RO b hb).2;omega⟩) qE qE).mono ?_;intro kH s9 Xs;have k9:=Xs.kp;have n9:=k9.nx;have Bq:bY 512 1 (.ptr s.nx 0) none none s9=.ok (.slice s.nx 0 512 512 0) s9:=rfl;rw[Bq,af];have g9:=(k9.keep s.nx qE uG).trans g8;have ZD:lr s9 [s.nx] (.slice s.nx 0 512 512 0) 1 (aj sec):=λX hX=>.inr ⟨s.nx,0,512,512,0,rfl,by simp[lq],⟨aEQ _,.inl rfl⟩,.inr ⟨hX s.nx uG,qE,_,_,_,g9,qE,O4⟩⟩;refine(Uc ZD qE qE).mono ?_;rintro lu s10 ⟨hst,rfl⟩;rw[hst.nil.str,af];have htl:=xv sec;have hub:=zC ks[i];have hul:=(kh ks[i] qE).2;refine(DD (Xs.sl [] uG) vR qE).mono ?_;intro lU dq Re;refine⟨⟨aer,aer⟩,aer,?_⟩;rw[gH i qE,af];have qx:=Re.kp;obtain⟨F11,q1,q2,q3⟩:=Re
  have etk:gf (dZ N (ks.take (i+1)))=gf (dZ N (ks.take i))++uv ks[i]++(uv (jv sec).length++jv sec):=by
   rw[aFe wR];unfold dZ;rw[aFR,Gb];simp[gf,NL,hg]
  rw[<-etk]at q2;have k89:Kp [] st _:=((hk.trans k8 uG).trans k9 uG).trans qx uG;exact next (fu-1) _ _ qE ⟨i+1,lU,qE,rfl,k89,F11,q2,λb hb=>⟨by have:=(q3 b hb).1;omega,(q3 b hb).2⟩⟩
 .rw[aEO wR,aET u7];rw[aEX qE]at own;have hii:i=ks.length:=by omega
  subst hii;exact hK s rec hk ⟨Fr,own,RO⟩
end
