import Derived.Test.YtckodcbgpffimaaGreatDoorPagE
namespace Lim
open Go
noncomputable section
set_option linter.defProp false
set_option maxRecDepth 100000
def GM0 (b:Nat):GM:=⟨b,1,0,[],λ_=>.blank,[]⟩
def dg:mQ:=⟨0,1,0,0⟩
def P0z:Nat->Piece:=λ_=>⟨0,φ,[]⟩
def aeN (j:Nat):(P0z j).ok:=⟨by show 0<=_;omega,by show 0<=_;omega,λ_=>⟨rfl,rfl⟩,λh=>absurd rfl h⟩
def P3 {D D':aX}(p:64<=D.aB.length)(m:D.aB.length<=65536)(f:∀i,i<D.aB.length->D.cur i=mq)(l:Calm D')(g:D'.waits=[])(d:D'.aB.length=D.aB.length)
 (c:∀j,D'.cur j=if j=0 then dZ 0 else if j=1+D.aB.length/4 then cB dg else D.cur j):mS D' (GM0 (D.aB.length-1-D.aB.length/4)) 0 0 P0z [] dg:=by
 have e:(mg (1+D.aB.length/4) (D.aB.length-1-D.aB.length/4) [] dg []).get D' 0=cB dg:=by
  rw[iK,c,B J,gq J];rfl
 refine⟨l,g,J,J,by rw[c,gq rfl],λj k=>?_,rfl,λj _=>hI _,J,V,V,?_,by rw[d];exact e,tW⟩
 .rw[d]at k;rw[c,B J,B J,f _ J];exact⟨VX,aeN j⟩
 .rw[d];refine⟨rfl,rfl,rfl,rfl,rfl,λn=>Iff.rfl,è,⟨hI _,?_,?_,è,λn b=>by cases b⟩,?_,λn b=>?_,λn b=>?_,gt,rfl,è,(λn b=>by cases b),rfl⟩
  .show 1<=D.aB.length-1-D.aB.length/4;omega
  .show D.aB.length-1-D.aB.length/4<=65536;omega
  .show 1+D.aB.length/4+(D.aB.length-1-D.aB.length/4)<=D'.aB.length;omega
  .have b:n<1:=b;have:n=0:=by omega
   subst this;show((mg _ _ [] dg []).get D' 0).length=512;rw[e];exact jN _
  .have h1:=b.1;have o:n<1:=b.2.1;omega
def agL (b:Nat)(h:1<=b)(d:b<=65536):gQ (GM0 b) []:=⟨⟨hI _,h,d,è,λn c=>by cases c⟩,.inl ⟨rfl,rfl,è,by unfold GM.bT GM0;simp;omega⟩⟩
section
variable {Z Z':O} {a:Nat} {F:δ Nat} {D:aX}
def P4 (Y:dz Z a F D)(lR:dV Z)(hc:Calm D)(jh:D.set=φ)(hw:D.waits=[])(Mt:64<=D.aB.length)(hz:∀i,i<D.aB.length->D.cur i=mq):Rq0 73 [.ptr a 0] Z (Yg a F D (GM0 (D.aB.length-1-D.aB.length/4)) 0 Z):=by
 refine bE ?_;rw[w73];have ap:=(show D.aB.length<=65536 from by obtain⟨_,_,_,_,_,_,_,h⟩:=Y;exact h.size);rw[cc,af,ag,B tW];refine(zl Y).same ?_;have ai:R .lss ν true (I D.aB.length) (I 64) Z=.ok Θ Z:=aan
 rw[ai,af,ag,B tW];refine(WD Y J).mono ?_;rintro _ s2 ⟨k2,p,z,x,y,bc,rfl,aa,H⟩;have Hh:=Y.keep k2 V;have n2:=k2.nx;rw[bU];refine(vf Hh).same ?_;simp only[ke];refine bD (λfu vs s=>∃i,fu+i=D.aB.length/4/\vs=[.ptr a 0,.ptr p 0,ζ (D.aB.length/4),I i]/\Kp [] s2 s) ?_ (n:=D.aB.length/4) ⟨0,rfl,rfl,Δ _ _⟩;rintro fu vs s k ⟨i,hi,rfl,L⟩ next;simp only[ke];rw[dd,af,ag];have W:=Hh.keep L V;have w:=aa.keep L V;have Xv:=L.fresh (k2.fresh lR);have e2:∀s,R .neq ψ true μ μ s=.ok Θ s:=λs=>rfl
 by_cases tK:i<D.aB.length/4
 .rw[jp tK,gq rfl]
  have e1:R .add ν true ϖ (I i) s=.ok (ζ (1+i)) s:=by
   have:R .add ν true (ζ 1) (I i) s=.ok (ζ (1+i)) s:=EW
   exact this
  rw[e1,af]
  have aD:D.read ((1+i:Nat):Int)=(0,mq):=by
   have:=hc.read (i:=1+i) J;rw[hz _ J]at this;exact this
  refine(FC W ((1+i:Nat):Int)).mono ?_;intro v d hv;rw[aD,gq rfl]at hv;obtain⟨k5,_,b,rfl,gb,CP,AJ⟩:=hv;rw[aE,af,aL,aE,af,e2,af,ag,B tW];have ad:Sl d [] (.slice b 0 512 512 1) 1 (al mq):=.inr ⟨b,0,512,512,1,rfl,by simp[rH],⟨hI _,.inr rfl⟩,.inr ⟨V,AJ,_,_,_,gb,by simp[rH],by rw[tu,lw (by simp[rH])]⟩⟩;have S8:aY .slice (.slice b 0 512 512 1) d=.ok (ζ 512) d:=rfl;rw[S8,af];have Xo:=Iq (n:=512) (s:=d) J;rw[Xo,aP];have k6:Kp [] d (O.new d (Ϡ (al (List.replicate 512 0)))):=(Δ [] d).new _;have g6:(O.new d (Ϡ (al (List.replicate 512 0)))).m.g d.nx=Φ (Ϡ (al (List.replicate 512 0))):=ay _ _;have n6:(O.new d (Ϡ (al (List.replicate 512 0)))).nx=d.nx+1:=rfl;generalize O.new d (Ϡ (al (List.replicate 512 0)))=s6 at*;have ac:Sl s6 [] (.slice d.nx 0 512 512 0) 1 (al (List.replicate 512 0)):=.inr ⟨d.nx,0,512,512,0,rfl,V,⟨hI _,.inl rfl⟩,.inr ⟨V,J,_,_,_,g6,V,by rw[tu,lw V]⟩⟩;refine(TV (ad.mono k6) ac).same ?_;have aj:(mq==List.replicate 512 0)=θ:=beq_self_eq_true _;rw[aj,bZ,af,r8,ag,B tW,fV i J,af];exact next (fu-1) _ _ J ⟨i+1,J,rfl,(L.trans k5 V).trans k6 V⟩
 .rw[jo tK,B tW];have ql:aR [μ,μ,μ,μ] [(1,1,I 1)] s=.ok (.agg [I dg.root,I dg.used,I dg.head,I dg.free]) s:=rfl;rw[ql,af];have Me:=w.main;have ae:=w.lt p V
  have NF:∀{s:O} {l:δ K} {o:Nat} {Kq0:O->Prop},s.m.g p=Φ (ϰ l)->o+4<=l.length->Kq0 (O.set s p (ϰ (bC l o [I dg.root,I dg.used,I dg.head,I dg.free])))->sq 4 o (.ptr p 0) (.agg [I dg.root,I dg.used,I dg.head,I dg.free]) s Kq0:=by
   intro s l o Kq0 hg h3 hK;simp only[sq,bk,ah,af,xz,hg,aN,oa];exact⟨⟨rfl,rfl,h3⟩,hK⟩
  have ZD:∀{s:O} {l:δ K} {Kq0:K->Prop},s.m.g p=Φ (ϰ l)->10<=l.length->(l.drop 6).take 4=[I dg.root,I dg.used,I dg.head,I dg.free]->Kq0 (.agg [I dg.root,I dg.used,I dg.head,I dg.free])->zu 4 6 (.ptr p 0) s Kq0:=by
   intro s l Kq0 hg h3 h4 hK;unfold zu;rw[bk,af,ah,af,im (n:=4) hg J,af,oa,h4];exact hK
  refine NF Me V ?_;refine ZD (ao ..) afO rfl ?_;refine NF (ao ..) afO ?_;rw[set_set];refine ZD (ao ..) afO rfl ?_;have u:=w.nd;simp only[me,ip,wn,GZ]at u
  have aC:dx (O.set s p (ϰ (bC (bC [.ptr a 0,.bq,I (ic D.aB.length).first,I (ic D.aB.length).aO,.map z,.map x,I (ic D.aB.length).kept.root,I (ic D.aB.length).kept.used,I (ic D.aB.length).kept.head,I (ic D.aB.length).kept.free,I (ic D.aB.length).m.root,I (ic D.aB.length).m.used,I (ic D.aB.length).m.head,I (ic D.aB.length).m.free,.map y,.map bc] 6 [I dg.root,I dg.used,I dg.head,I dg.free]) 10 [I dg.root,I dg.used,I dg.head,I dg.free]))) p a .bq {ic D.aB.length with kept:=dg,m:=dg} z x y bc:=
   ⟨ao ..,w.cC.mono (ar _ _ _ _ (ny u.1.1)),w.now.mono (ar _ _ _ _ (ny u.1.2.1)),w.idle.mono (ar _ _ _ _ (ny u.1.2.2.1)),w.count.mono (ar _ _ _ _ (ny u.1.2.2.2)),w.nd,w.lt,⟨rfl,rfl,rfl⟩⟩
  have pG:Kp [p] s (O.set s p (ϰ (bC (bC [.ptr a 0,.bq,I (ic D.aB.length).first,I (ic D.aB.length).aO,.map z,.map x,I (ic D.aB.length).kept.root,I (ic D.aB.length).kept.used,I (ic D.aB.length).kept.head,I (ic D.aB.length).kept.free,I (ic D.aB.length).m.root,I (ic D.aB.length).m.used,I (ic D.aB.length).m.head,I (ic D.aB.length).m.free,.map y,.map bc] 6 [I dg.root,I dg.used,I dg.head,I dg.free]) 10 [I dg.root,I dg.used,I dg.head,I dg.free]))):=(Δ _ s).set _ (.inl V) ae;generalize O.set s p (ϰ (bC (bC [.ptr a 0,.bq,I (ic D.aB.length).first,I (ic D.aB.length).aO,.map z,.map x,I (ic D.aB.length).kept.root,I (ic D.aB.length).kept.used,I (ic D.aB.length).kept.head,I (ic D.aB.length).kept.free,I (ic D.aB.length).m.root,I (ic D.aB.length).m.used,I (ic D.aB.length).m.head,I (ic D.aB.length).m.free,.map y,.map bc] 6 [I dg.root,I dg.used,I dg.head,I dg.free]) 10 [I dg.root,I dg.used,I dg.head,I dg.free]))=eo at*;have Ez:=Y.lt;have bh:=H p V;have aq:=W.keep pG λb c hh=>by have:=Ez b c;simp at hh;omega
  have uB:=L.nx;have bg:=pG.nx;refine(F6 (m:=dg) (by intro n hn;simp[ot,dg]at hn;rcases hn with rfl|rfl|rfl|rfl<;>omega)).mono ?_;rintro _ e ⟨rfl,oR⟩;have Qw:=jN dg;have Gy:(al (cB dg)).length=512:=by simpa using Qw
  refine pE Gy (bK _) ?_;have S:=oR.page (al (cB dg));have Ax:(O.set (O.new e (ϛ (zr 512))) e.nx (ϛ (al (cB dg)))).m.g e.nx=Φ (ϛ (al (cB dg))):=ao ..;have YH:(O.set (O.new e (ϛ (zr 512))) e.nx (ϛ (al (cB dg)))).nx=e.nx+1:=rfl;generalize O.set (O.new e (ϛ (zr 512))) e.nx (ϛ (al (cB dg)))=N at*;have XF:=aC.keep S V;have aI:=aq.keep S V;have aM:=XF.main;have ZC:=S.fresh (pG.fresh Xv);have G9:cD 512 1 (.ptr e.nx 0) ν ν N=.ok (.slice e.nx 0 512 512 0) N:=rfl;rw[aZ,bk,af,ah,af,av,aM,ak];simp only[Gm,kc,io,G9,af];have Nl:=oR.nx;have aQ:Sl N F (.slice e.nx 0 512 512 0) 1 (al (cB dg)):=.inr ⟨e.nx,0,512,512,0,rfl,by simp[Qw],⟨hI _,.inl rfl⟩,.inr ⟨λhh=>by have:=Ez _ hh;omega,J,_,_,_,Ax,J,QN⟩⟩;refine(xH aI (i:=((1+D.aB.length/4:Nat):Int)) ZC (by rw[hw];simp) aQ Qw).mono ?_;rintro _ gJ ⟨rfl,lH,F2,To,Dr⟩;obtain⟨w1,w2,w3,w4,w5,w6,w7⟩:=(hc.write (i:=1+D.aB.length/4) (s:=cB dg) J Qw afa).resolve_right λh=>by rw[jh]at h;exact absurd h.2.1 tW
  rw[jh]at w7;generalize a4:(D.write ((1+D.aB.length/4:Nat):Int) (cB dg)).2=D1 at*;rw[w1];refine⟨⟨gt,gt⟩,gt,?_⟩;rw[e2,af,ag,B tW];refine(yC To (by rw[w5,hw];simp)).mono ?_;rintro _ dt ⟨rfl,tP,F3,aw,Dq⟩;obtain⟨f1,f2,f3,f4,f5,f6⟩:=(w2.flush w4).resolve_right λh=>by rw[w7]at h;exact absurd h.2.1 tW
  rw[w7]at f6;generalize a3:D1.flush.2=D2 at*;rw[f1,e2,af,ag,B tW];have ZB:=tP.fresh (lH.fresh ZC);refine(NR ZB aw (by rw[f4];simp) (base:=0) J).mono ?_;rintro _ dA ⟨rfl,zn,F4,XA,an⟩;obtain⟨g1,g2,g3,g4,g5,g6⟩:=(f2.head f4 (by rw[f3,w3];omega) 0).resolve_right λh=>by rw[f6]at h;exact absurd h.2.1 tW
  rw[f6]at g6;generalize a2:(D2.head 0).2=D3 at*;rw[g1,e2,af,ag,B tW];have PM:D3.aB.length=D.aB.length:=by rw[g3,f3,w3]
  have vZ:∀j,D3.cur j=if j=0 then dZ 0 else if j=1+D.aB.length/4 then cB dg else D.cur j:=λj=>by
   rw[g5]
   by_cases M:j=0
   .rw[gq M,gq M]
   .rw[B M,B M,f5,w6]
  have oD:=P3 Mt ap hz g2 g4 PM vZ;refine(vf XA).same ?_;have aH:=zn.fresh ZB;have am:xt D3 ⟨1,D3.aB.length/4,0,0,0⟩ P0z:=⟨by show 0<D3.aB.length/4;omega,by show 1+D3.aB.length/4<=_;omega,J,sw _,λj M=>oD.oN j M⟩;refine(HQ (base:=0) aH XA g2.dead am J).mono ?_;rintro _ oJ ⟨r,xo,Fo,Gg,rfl,f,uz,BK,a1,hr⟩;have a0:=lH.nx;have aW:=tP.nx;have aT:=zn.nx;have aS:=f.nx;have bj:=S.nx
  have Z1:∀b∈F4,b∈F\/N.nx<=b:=λb c=>by
   rcases an b c with h1|h1
   .rcases Dq b h1 with h2|h2
    .exact Dr b h2
    .right;omega
   .right;omega
  have ab:∀b∈F3,b∈F\/N.nx<=b:=λb c=>by
   rcases Dq b c with h2|h2
   .exact Dr b h2
   .right;omega
  have P:=aa.lt
  have Q:∀(X:δ Nat),(∀b∈X,b∈F\/N.nx<=b)->∀b∈[p,z,x,y,bc],b∉X:=λX hX b c hh=>by
   have h1:=P b c;have h2:=H b c;rcases hX b hh with h3|h3
   .have:=Ez b h3;omega
   .omega
  have C:=(((XF.keep lH (Q F lk)).keep tP (Q F2 Dr)).keep zn (Q F3 ab)).keep f V;have ax:=XA.keep f V;rw[aE,af,aL,aE,af,aL,aL,aE,af,e2,af,ag,B tW];have aF:=C.main;have aG:=C.lt p V;simp only[sq,bk,ah,af,oa];rw[aK,aF,aU];refine⟨⟨rfl,rfl,V⟩,?_⟩;have Pz:∀T,Kp [p] oJ (O.set oJ p (ϰ T)):=λT=>(Δ _ oJ).set _ (.inl V) aG;have a9:=P p V;have be:=P z V;have ba:=P x V;have bb:=P y V;have bf:=P bc V;have az:=XA.lt;have Dk:=oD.rep;rw[PM]at Dk;refine⟨⟨p,a,.ptr r 0,z,x,y,bc,F4,D3,[],dg,1+D.aB.length/4⟩,rfl,rfl,⟨{ic D.aB.length with kept:=dg,m:=dg},⟨ao ..,C.cC.mono (ar _ _ _ _ (ny u.1.1)),C.now.mono (ar _ _ _ _ (ny u.1.2.1)),C.idle.mono (ar _ _ _ _ (ny u.1.2.2.1)),C.count.mono (ar _ _ _ _ (ny u.1.2.2.2)),C.nd,C.lt,⟨rfl,rfl,rfl⟩⟩,Dk,ax.keep (Pz _) λb c hh=>?_,g2.dead,λb c hh=>?_,rfl,rfl,rfl⟩,⟨⟨0,0,P0z,[],r,oD,hI _,rfl,?_,?_,λn=>rfl⟩,by show 1+D.aB.length/4=1+D3.aB.length/4;rw[PM],V,V⟩,?_,?_,by show Z.nx<=p;omega,g2,PM,⟨r,rfl,J⟩,g6.trans jh.symm⟩
  .exact Q F4 Z1 p V (by have:b=p:=by simpa using hh
                         rw[<-this];exact c)
  .exact Q F4 Z1 b hh c
  .have:=(oD.opened).2;rw[this]at uz;exact uz.keep (Pz _) xI
  .unfold PI.all;simp only[ip,rt];exact⟨J,J,J,J,J,λhh=>by have:=az r hh;omega⟩
  .have q0:Kp F Z s:=(k2.trans L V).mono V;have q1:=(q0.trans pG (by intro q G;right;simp at G;omega)).trans S V;have q2:=q1.trans lH lk;have q3:=q2.trans tP λq G=>(Dr q G).imp id λh=>by omega
   have q4:=q3.trans zn λq G=>(ab q G).imp id λh=>J
   exact(q4.trans f V).trans (Pz _) (by intro q G;right;simp at G;omega)
  .intro b c;unfold PI.all at c;simp only[ip]at c;have a7:=H z V;have a5:=H x V;have a6:=H y V;have a8:=H bc V;rcases c with c|c|c|c|c|c
   .right;omega
   .right;omega
   .right;omega
   .right;omega
   .right;omega
   .rcases Z1 b c with h1|h1
    .left;exact h1
    .right;omega
end
def aX.Hm (D:aX)(L:δ (Nat×kh))(w:Nat×kh):D.writes (L++[w])=if (D.writes L).1=0 then (if ((D.writes L).2.write w.1 w.2).1=0 then (0,((D.writes L).2.write w.1 w.2).2)else (D.writes L).2.write w.1 w.2)else D.writes L:=by
 induction L generalizing D with
 |nil=>rfl
 |cons v L d=>
  have e:∀a,D.writes (v::a)=if (D.write v.1 v.2).1=0 then (D.write v.1 v.2).2.writes a else D.write v.1 v.2:=λa=>rfl
  by_cases b:(D.write v.1 v.2).1=0
  .have e1:D.writes (v::L)=(D.write v.1 v.2).2.writes L:=by rw[e,gq b]
   have c:D.writes (v::L++[w])=(D.write v.1 v.2).2.writes (L++[w]):=by rw[ut,e,gq b]
   rw[c,e1];exact d _
  .have e1:D.writes (v::L)=D.write v.1 v.2:=by rw[e,B b]
   have c:D.writes (v::L++[w])=D.write v.1 v.2:=by rw[ut,e,B b]
   rw[c,e1,B b]
def lE (count base last top:Nat)(rec:δ Γ)(k:Nat):δ (Nat×kh):=(List.range k).map (RingM.Bc ⟨1,count,base,last,top⟩ rec)
def O7 {count base last top:Nat}{rec:δ Γ}{k:Nat}{w:Nat×kh}(h:w∈lE count base last top rec k):∃i,i<k/\w=(1+(last+1+i)%count,(cO rec last (bf rec.length) i).bX):=by
 unfold lE at h;obtain⟨i,hi,rfl⟩:=lm.1 h;exact⟨i,List.mem_range.1 hi,rfl⟩
structure UK (D D':aX)(count:Nat)(P':Nat->Piece)(W:List (Nat×kh)):Prop where
 calm:Calm D'
 En:D'.En
 aB:D'.aB=D.aB
 waits:D'.waits=D.waits++W
 log:∀j,j<count->D'.cur (1+j)=(P' j).bX/\(P' j).ok
 zero:D'.cur 0=D.cur 0
 rest:∀j,1+count<=j->D'.cur j=D.cur j
 set:D'.set=D.set
def Ib {rec:δ Γ}{last i:Nat}(hi:i<bf rec.length)(d:last<=1000000000)(c:bf rec.length<=1000000):(cO rec last (bf rec.length) i).ok/\(cO rec last (bf rec.length) i).bX.length=512:=by
 have a:(cO rec last (bf rec.length) i).data.length<=501:=adG
 refine⟨⟨adG,a,λh=>absurd h (by unfold cO;simp),λ_ h=>?_⟩,Piece.sL _ a⟩;have b:¬i+1=bf rec.length:=by unfold cO at h;simpa using h
 have h2:=Ic (len:=rec.length) (i:=i+1) J;unfold cO;simp;omega
def OK {D:aX}{count base last top:Nat}{P:Nat->Piece}{rec:δ Γ}(z:Calm D)(b:D.En)(C:0<count)(Q:1+count<=D.aB.length)(n:∀j,j<count->D.cur (1+j)=(P j).bX/\(P j).ok)(y:last<=1000000000)(x:bf rec.length<=1000000):
 ∀k,k<=bf rec.length->((D.writes (lE count base last top rec k)).1=0/\UK D (D.writes (lE count base last top rec k)).2 count (xV P count rec last k) (lE count base last top rec k))\/((D.writes (lE count base last top rec k)).1=20/\D.set=θ/\lS D.aB (D.waits++lE count base last top rec k) (D.writes (lE count base last top rec k)).2):=by
 intro k
 induction k with
 |zero=>intro _;exact .inl ⟨rfl,z,b,rfl,by simp[lE,aX.writes],n,rfl,λ_ _=>rfl,rfl⟩
 |succ k u=>
  intro N;obtain⟨q,p⟩:=Ib (rec:=rec) (last:=last) (i:=k) J y x;have S:(last+1+k)%count<count:=NO _ C
  have F:lE count base last top rec (k+1)=lE count base last top rec k++[(1+(last+1+k)%count,(cO rec last (bf rec.length) k).bX)]:=by
   unfold lE;rw[List.range_succ,wd,pw,List.map_nil];rfl
  rw[F,D.Hm];rcases u (by omega)with⟨d,a⟩|⟨d,a,v⟩
  .rw[gq d];have c:1+(last+1+k)%count<(D.writes (lE count base last top rec k)).2.aB.length:=by rw[a.aB];omega
   rcases a.calm.write (i:=1+(last+1+k)%count) (s:=(cO rec last (bf rec.length) k).bX) c p a.En with⟨g,f,e,L,I,o,H⟩|⟨g,f,e⟩
   .rw[gq g];refine .inl ⟨rfl,f,L,by show aX.aB _=_;rw[e];exact a.aB,by show aX.waits _=_;rw[I,a.waits,we],λj m=>?_,?_,λj m=>?_,by show aX.set _=_;rw[H];exact a.set⟩
    .show aX.cur _ (1+j)=_/\_;rw[o];simp only[xV]
     by_cases h:j=(last+1+k)%count
     .rw[gq J,gq h];exact⟨rfl,q⟩
     .rw[B J,B h];exact a.log j m
    .show aX.cur _ 0=_;rw[o,B J];exact a.zero
    .show aX.cur _ j=_;rw[o,B J];exact a.rest j m
   .have r:¬((D.writes (lE count base last top rec k)).2.write ((1+(last+1+k)%count:Nat):Int) (cO rec last (bf rec.length) k).bX).1=0:=by rw[g];decide
    rw[B r];rw[a.set]at f;rw[a.aB,a.waits]at e;exact .inr ⟨g,f,e.more λw b=>by rw[we]at b;exact b⟩
  .rw[B (by rw[d];decide)]
   exact .inr ⟨d,a,v.more λw b=>by
    rcases lh.1 b with h|h
    .exact À _ h
    .exact aOa _ (À _ h)⟩
def tT.aeu {M M':cA}{D D':aX}{G:GM}(h:tT M D G)(e:∀n,0<n->n<M.aO->M'.get D' n=M.get D n)(u:(M'.get D' 0).length=512)(c:M'.aO=M.aO)(b:M'.m=M.m)(i:M'.idle=G.fr)(s:M'.now=[])(d:M'.count=[])(q:M'.first=M.first)(p:D'.aB.length=D.aB.length):tT M' D' G.reset:=by
 have g:=h.ok.jT;have f:wb G.reset:=⟨h.ok.one,h.ok.jT,h.ok.size,h.ok.nd,h.ok.fr⟩;have o:G.reset.used=G.used:=rfl;refine⟨c.trans h.aO,by rw[b];exact h.used,by rw[b];exact h.root,by rw[b];exact h.head,by rw[b];exact h.free,λn=>by rw[i];rfl,by rw[i];exact h.ok.nd,f,by rw[q,c,p];exact h.fits,λn a=>?_,λn a=>?_,?_,by rw[s,d];rfl,by rw[d];exact è,(by rw[d];intro n a;cases a),d⟩
 .by_cases k:n=0
  .rw[k];exact u
  .rw[e n J (by rw[h.aO];omega)];exact h.len n a
 .rw[e n a.1 (by rw[h.aO];have:=a.2.1;omega)];exact h.cont n a
 .have key:∀l:δ Nat,(∀n∈l,0<n/\n<M.aO)->Vr M D l->Vr M' D' l:=by
   intro l
   induction l with
   |nil=>intro _ _;trivial
   |cons n r j=>intro c b;exact⟨(e n (c n V).1 (c n V).2).trans b.1,j (λm g=>c m (by simp[g])) b.2⟩
  exact key _ (λn a=>⟨(h.ok.fr n a).1,by rw[h.aO];have:=(h.ok.fr n a).2;omega⟩) h.chain
def DX:∀(l d:δ fx) (n:Nat),(l.map (·.1)).Nodup->dm (Bc d l) n=(dm l n).or (dm d n):=by
 intro l
 induction l with
 |nil=>intro d n _;rfl
 |cons e l b=>
  intro d n a;rw[pw,me]at a;show dm (Bc (jr d e.1 e.2) l) n=_;rw[b _ n a.2,rJ];simp only[dm]
  by_cases h:n=e.1
  .subst h;rw[gq rfl,gq rfl,nt.2 a.1];rfl
  .rw[B h,B h]
section
variable {D D':aX} {G Gk:GM} {base last:Nat} {P:Nat->Piece} {Ls:δ (δ fx)} {kept:mQ} {M:cA} {l:δ fx}
structure yS (D:aX)(G:GM)(M:cA)(l:List fx)(Ls:List (List fx)):Prop where
 rep:tT M D G
 first:M.first=1+D.aB.length/4
 aO:M.aO=D.aB.length-1-D.aB.length/4
 dir:∀n,dm M.cC n=dm (eU [] Ls) n
 nd:(l.map (·.1)).Nodup
 get:∀n,dm l n=if n=0 then some (cB M.m)else dm M.now n
 rq:∀e∈l,e.1<M.aO/\e.2.length=512
 small:(eR l).length<=1000000
 root:M.m.root<2147483648
def yS.ahp (h:yS D G M l Ls)(a:D'.aB.length=D.aB.length)(d:∀j,1+D.aB.length/4<=j->D'.cur j=D.cur j):
 tT (mg (1+D.aB.length/4) (D.aB.length-1-D.aB.length/4) (eU [] (Ls++[l])) M.m G.fr) D' G.reset/\(mg (1+D.aB.length/4) (D.aB.length-1-D.aB.length/4) (eU [] (Ls++[l])) M.m G.fr).get D' 0=cB M.m:=by
 have c:∀n,(mg (1+D.aB.length/4) (D.aB.length-1-D.aB.length/4) (eU [] (Ls++[l])) M.m G.fr).get D' n=if n=0 then cB M.m else M.get D n:=λn=>by
  rw[iK,xT,DX l _ n h.nd,h.get]
  by_cases b:n=0
  .rw[gq b,gq b];rfl
  .rw[B b,B b,d _ J,<-h.dir];unfold cA.get;rw[h.first];cases dm M.now n with
   |some s=>rfl
   |none=>cases dm M.cC n<;>rfl
 exact⟨h.rep.aeu (λn f e=>by rw[c,B J]) (by rw[c,gq rfl];exact jN _) h.aO.symm rfl rfl rfl rfl h.first.symm a,by rw[c,gq rfl]⟩
def yS.aae (h:yS D G M l Ls)(c:∀l∈Ls,∀e∈l,e.1<D.aB.length-1-D.aB.length/4/\e.2.length=512):∀a∈Ls++[l],∀e∈a,e.1<D.aB.length-1-D.aB.length/4/\e.2.length=512:=λa d e b=>by
 rcases lh.1 d with h1|h1
 .exact c a h1 e b
 .have:a=l:=by simpa using h1
  subst this;have:=h.rq e b;have:=h.aO;omega
def yS.Rm (h:yS D G M l Ls)(b:∀l∈Ls,(eR l).length<=1000000):∀a∈Ls++[l],(eR a).length<=1000000:=λa c=>by
 rcases lh.1 c with h1|h1
 .exact b a h1
 .have:a=l:=by simpa using h1
  rw[this];exact h.small
def mS.aev (h:mS D Gk base last P Ls kept)(c:yS D G M l Ls)(g:bf (eR l).length+(last-base)<=D.aB.length/4){W:δ (Nat×kh)}
 (b:UK D D' (D.aB.length/4) (xV P (D.aB.length/4) (eR l) last (bf (eR l).length)) W) (i:D'.flush.1=0):mS D'.flush.2 G.reset base (last+bf (eR l).length) (xV P (D.aB.length/4) (eR l) last (bf (eR l).length)) (Ls++[l]) M.m:=by
 obtain⟨p,o,n,k,d,_⟩:=(b.calm.flush b.En).resolve_right λh=>by rw[i]at h;exact absurd h.1 tW
 have hlen:=n.trans (congrArg List.length b.aB);obtain⟨f,e⟩:=c.ahp hlen λj a=>(d j).trans (b.rest j a);refine⟨o,k,by rw[hlen];exact h.least,by rw[hlen];exact h.jT,by rw[d,b.zero];exact h.head,λj a=>?_,?_,λj a=>?_,by rw[hlen];have:=h.laid.le.1;omega,by rw[hlen];exact c.aae h.rq,c.Rm h.small,by rw[hlen];exact f,by rw[hlen];exact e,c.root⟩
 .rw[hlen]at a;rw[d];exact b.log j a
 .rw[hlen,wd];exact h.laid.put g
 .rw[hlen]at a;exact abp h.le _ (hI _) j a
end
def HV {P:Nat->Piece}{count:Nat}:∀{b:δ (δ Γ)} {s e:Nat},jX P count s b e->(∀(f:Nat) (a:δ (δ Γ)),jq P count f e [] a e=(a,e))->∀(fuel:Nat) (a:δ (δ Γ)),e<=s+fuel->jq P count fuel s [] a s=(a++b,e):=by
 intro b
 induction b with
 |nil=>
  intro s e h c fuel a g;have h:=h;subst h;rw[c];simp
 |cons rec b d=>
  intro s e h c fuel a g;have h1:=(jX.le h.2).1;have h2:=l7 rec.length;have:=HU h.1 (fuel-bf rec.length) s a (bf rec.length) 0 J h2;rw[show fuel-bf rec.length+bf rec.length=fuel from J]at this;simp only[rc,Nat.zero_mul,S6]at this;rw[this,d h.2 c _ _ J];simp
def KX (P:Nat->Piece)(count:Nat)(rec:δ Γ)(last:Nat)(mask:Nat->Bool):Nat->Nat->Piece
 |0=>P
 |k+1=>λj=>if mask k=θ/\j=(last+1+k)%count then cO rec last (bf rec.length) k else KX P count rec last mask k j
section
variable {P:Nat->Piece} {count last:Nat} {rec:δ Γ} {mask:Nat->Bool}
def Bf (j:Nat):∀k,(∀i,i<k->j≠(last+1+i)%count)->KX P count rec last mask k j=P j:=by
 intro k
 induction k with
 |zero=>intro _;rfl
 |succ k a=>intro h;simp only[KX];rw[B (λhh=>h k J hh.2)];exact a λi hi=>h i J
def Wc (k i:Nat)(hi:i<k)(e:k<=count):KX P count rec last mask k ((last+1+i)%count)=if mask i=θ then cO rec last (bf rec.length) i else P ((last+1+i)%count):=by
 induction k with
 |zero=>omega
 |succ k d=>
  simp only[KX]
  by_cases h:i=k
  .subst h
   by_cases c:mask i=θ
   .rw[gq ⟨c,rfl⟩,gq c]
   .rw[B (λhh=>c hh.1),B c];exact Bf _ _ λj f=>ny (wR J J)
  .rw[B (λhh=>wR (a:=last+1+i) (b:=last+1+k) J J hh.2)];exact d J J
def Rn {i a n:Nat}(hi:i<n)(c:a<n)(b:n<=count)(h:(last+1+i)%count=(last+1+a)%count):i=a:=by
 rcases aOb i a with h1|h1|h1
 .exact absurd h (wR J J)
 .exact h1
 .exact absurd h.symm (wR J J)
def QY {base j:Nat}(b:j<count)(a:(P j).n≠0)(h:(P j).n%count=j):(P j).n<=lu P count base count:=by
 have h2:=rE P count base (j+1) count J
 have c:(P j).n<=lu P count base (j+1):=by
  simp only[lu];rw[gq ⟨a,h⟩];omega
 omega
def Sn:∀n,(∃i,i<n/\mask i≠true)->∃j,j<n/\mask j≠true/\∀i,i<j->mask i=θ:=by
 intro n
 induction n with
 |zero=>rintro⟨i,hi,_⟩;omega
 |succ n d=>
  rintro⟨i,hi,b⟩
  by_cases h:∃i,i<n/\mask i≠true
  .obtain⟨j,h1,h2,f⟩:=d h;exact⟨j,J,h2,f⟩
  .have c:i=n:=by
    rcases wl i n with h1|h1
    .exact absurd ⟨i,h1,b⟩ h
    .omega
   subst c
   exact⟨i,J,b,λk e=>by
    by_cases a:mask k=θ
    .exact a
    .exact absurd ⟨k,e,a⟩ h⟩
end
section
variable {D D':aX} {G Gk:GM} {base last:Nat} {P:Nat->Piece} {Ls:δ (δ fx)} {kept:mQ} {M:cA} {l:δ fx}
def mS.agN (h:mS D Gk base last P Ls kept)(Q:yS D G M l Ls)(hl:last<=1000000000)(qR:bf (eR l).length+(last-base)<=D.aB.length/4){b' t':Nat}(b:lS D.aB (lE (D.aB.length/4) b' last t' (eR l) (bf (eR l).length)) D'):
 (∃top P',qX D' Gk base last top P' Ls kept/\top<=last+bf (eR l).length)\/∃P',qX D' G.reset base (last+bf (eR l).length) (last+bf (eR l).length) P' (Ls++[l]) M.m:=by
 have Mt:=h.least;have L:=h.jT;have vu:=h.laid.le.1;have L9:=l7 (eR l).length;have ad:=h.laid.count;rw[so]at ad;have ae:=h.room;have aa:=λi hi=>(Ib (rec:=eR l) (last:=last) (i:=i) hi hl J).1;generalize hn:bf (eR l).length=n at*;generalize c:D.aB.length/4=count at*;have Y:=λj=>(pQ h.waits j).symm
 have T:∀w∈lE count b' last t' (eR l) n,∃i,i<n/\w.1=1+(last+1+i)%count/\w.2=(cO (eR l) last n i).bX:=λw y=>by
  obtain⟨i,hi,rfl⟩:=O7 y;exact⟨i,hi,rfl,by rw[hn]⟩
 have u:0<count:=J
 have SV:D'.cur 0=D.cur 0:=by
  rcases b.cur 0 with k|⟨w,y,k,_⟩
  .rw[k,Y]
  .obtain⟨i,_,F,_⟩:=T w y;omega
 have NH:∀j,1+count<=j->D'.cur j=D.cur j:=λj q=>by
  rcases b.cur j with k|⟨w,y,k,_⟩
  .rw[k,Y]
  .obtain⟨i,_,F,_⟩:=T w y;have:=NO (last+1+i) u;omega
 obtain⟨mask,Zv⟩:∃mask:Nat->Bool,∀i,mask i=decide (D'.cur (1+(last+1+i)%count)=(cO (eR l) last n i).bX):=⟨_,λ_=>rfl⟩
 have H:=λi hi=>by
  have:=Wc (P:=P) (count:=count) (last:=last) (rec:=eR l) (mask:=mask) n i hi J
  rwa [hn]at this
 have C:∀j,(∀i,i<n->j≠(last+1+i)%count)->KX P count (eR l) last mask n j=P j:=λj q=>Bf j n q;generalize ag:KX P count (eR l) last mask n=P' at*
 have oN:∀j,j<count->D'.cur (1+j)=(P' j).bX/\(P' j).ok:=λj q=>by
  have hs:=h.oN j (by rw[c];exact q);have XB:=b.cur (1+j);rw[Y]at XB
  by_cases v:∃i,i<n/\j=(last+1+i)%count
  .obtain⟨i,hi,rfl⟩:=v;rw[H i hi]
   by_cases p:mask i=θ
   .rw[gq p];rw[Zv]at p;exact⟨Xm p,aa i hi⟩
   .rw[B p];rcases XB with k|⟨w,y,k,F⟩
    .rw[k];exact hs
    .obtain⟨i',fB,h3,h4⟩:=T w y;have:=Rn (last:=last) (count:=count) hi fB J J;subst this;rw[Zv]at p;exact absurd (jp (F.trans h4)) p
  .rw[C j λi hi e=>v ⟨i,hi,e⟩];rcases XB with k|⟨w,y,k,F⟩
   .rw[k];exact hs
   .obtain⟨i',fB,h3,_⟩:=T w y;exact absurd ⟨i',fB,J⟩ v
 have I:∀j,j<count->(P' j).n<=last\/∃i,i<n/\j=(last+1+i)%count/\mask i=θ/\(P' j).n=last+1+i:=λj q=>by
  have hs:=h.le j (by rw[c];exact q)
  by_cases v:∃i,i<n/\j=(last+1+i)%count
  .obtain⟨i,hi,rfl⟩:=v;rw[H i hi]
   by_cases p:mask i=θ
   .rw[gq p];exact .inr ⟨i,hi,rfl,p,rfl⟩
   .rw[B p];exact .inl hs
  .rw[C j λi hi e=>v ⟨i,hi,e⟩];exact .inl hs
 have W:∀j,j<count->(P' j).n<=last+n:=λj q=>by
  rcases I j q with k|⟨i,hi,_,_,k⟩<;>omega
 have g:jX P' count base (Ls.map eR) last:=by
  have:=h.laid;rw[c]at this;exact this.congr λx k F=>C _ λi hi=>wR J J
 have ZG:=h.rq;rw[c]at ZG;have kD:=h.rep;have s:=h.zero;rw[c]at kD s
 by_cases fJ:∃i,i<n/\mask i≠true
 .left;obtain⟨X,af,Mg,ab⟩:=Sn n fJ
  have BW:∀(f:Nat) (o:δ (δ Γ)),jq P' count f last [] o last=(o,last):=by
   intro f o
   suffices key:∀d i f z,i+d=X->jq P' count f (last+i) z o last=(o,last) by exact key X 0 f [] J
   intro d
   induction d with
   |zero=>
    intro i f z hi;cases f with
    |zero=>rfl
    |succ f=>
     have hp:=H i J;have:i=X:=J
     subst this;rw[B Mg]at hp;have hs:=h.le ((last+1+i)%count) (by rw[c];exact NO _ u);rw[jq,B (by rw[show last+i+1=last+1+i from J,hp];omega)]
   |succ d ih=>
    intro i f z hi;cases f with
    |zero=>rfl
    |succ f=>
     have hp:=H i J;rw[gq (ab i J)]at hp;have S:(P' ((last+i+1)%count)).n=last+i+1:=by rw[show last+i+1=last+1+i from J,hp];rfl
     have e2:¬(P' ((last+i+1)%count)).last=θ:=by
      rw[show last+i+1=last+1+i from J,hp];unfold cO;simp;omega
     rw[jq,gq S,B e2];exact ih (i+1) f _ J
  have N:=HV g BW count [] J;rw[ow]at N
  have ac:last<=lu P' count base count:=by
   cases hL:Ls with
   |nil=>
    rw[hL]at g;have:=g;rw[this];exact rE P' count base 0 count (sw _)
   |cons a r=>
    by_cases hz:last=0
    .rw[hz];exact sw _
    .have hp:=g.YK (by rw[hL];simp);have:=QY (P:=P') (count:=count) (base:=base) (j:=last%count) (NO _ u) (by rw[hp];exact hz) (by rw[hp])
     rwa [hp]at this
  have hg:∀m,(mg (1+count) (D.aB.length-1-count) (eU [] Ls) kept Gk.fr).get D' m=(mg (1+count) (D.aB.length-1-count) (eU [] Ls) kept Gk.fr).get D m:=λm=>by
   rw[iK,iK,NH _ J]
  refine⟨lu P' count base count,P',⟨b.waits,by rw[b.len];exact Mt,by rw[b.len];exact L,SV.trans h.head,by rw[b.len,c];exact oN,by rw[b.len,c];exact N,by rw[b.len,c],?_,vu,ac,J,by rw[b.len,c];exact ZG,h.small,?_,?_,h.root⟩,AA P' count base _ J W count (hI _)⟩
  .rw[b.len,c];intro j q;rcases I j q with k|⟨i,hi,k,F,h3⟩
   .omega
   .exact QY q J (by rw[h3,k])
  .rw[b.len,c];exact kD.congr (λm _=>hg m) rfl rfl rfl rfl rfl rfl b.len
  .rw[b.len,c];exact(hg 0).trans s
 .right
  have p:=λi hi=>by
   by_cases v:mask i=θ
   .exact v
   .exact absurd ⟨i,hi,v⟩ fJ
  have YM:jX P' count base ((Ls++[l]).map eR) (last+n):=by
   rw[wd,<-hn];exact g.snoc λi hi=>by rw[H i J,gq (p i J),hn]
  have N:=HV YM (λf o=>by
   cases f with
   |zero=>rfl
   |succ f=>
    have:=W ((last+n+1)%count) (NO _ u);rw[jq,B J]) count [] J
  rw[ow]at N;obtain⟨r1,r2⟩:=Q.ahp b.len λj q=>NH j J;have S:=Q.aae h.rq;rw[c]at r1 r2 S;exact⟨P',⟨b.waits,by rw[b.len];exact Mt,by rw[b.len];exact L,SV.trans h.head,by rw[b.len,c];exact oN,by rw[b.len,c];exact N,by rw[b.len,c];exact E5 YM u W,by rw[b.len,c];exact W,J,hI _,xI,by rw[b.len,c];exact S,Q.Rm h.small,by rw[b.len,c];exact r1,by rw[b.len,c];exact r2,Q.root⟩⟩
end
def Ry {l:δ fx}{n:Nat}{s:kh}(h:n∉l.map (·.1)):sR (iA (jr l n s)) n=iA l:=by
 induction l with
 |nil=>simp[jr,iA,sR]
 |cons p r a=>
  simp only[pw,ip,rt]at h;simp only[jr,B h.1];show sR ((((p.1:Nat):Int),K.agg (al p.2))::iA (jr r n s)) n=(((p.1:Nat):Int),K.agg (al p.2))::iA r;simp only[sR];rw[B J,a h.2]
def Iu {l:δ Nat}(h:l.Nodup):(l.map Int.ofNat).Nodup:=by
 induction l with
 |nil=>simp
 |cons a l c=>
  rw[me]at h;rw[pw,me];refine⟨λhh=>?_,c h.2⟩;obtain⟨b,d,e⟩:=lm.1 hh;exact h.1 (by rw[<-Int.ofNat.inj e];exact d)
def Hv {a:δ fh}{m:MZ}(h:da a m):da (iH a) m:=by
 unfold da iH at*;rw[Xf];exact h
section
variable {Z Z':O}
def Jp {d:δ fh}{s:δ fh}{Ld Ls:δ fx}(j:da d (iA Ld))(z:da s (iA Ls))(g:fh->Bool)(u:∀e,g e=θ↔¬∃x∈s,x.1=e.1):da ((iH d).filter g) (iA (Ld.filter (λe=>decide (e.1∉Ls.map (·.1))))):=by
 have q:∀n:Nat,(∃x∈s,x.1=I n)↔n∈Ls.map (·.1):=by
  intro n;obtain⟨w,l⟩:=ux z;constructor
  .rintro⟨x,f,e⟩;obtain⟨m,o,i⟩:=l x f;rw[e]at i;have:(n:Int)=(m:Int):=by cases i;rfl
   have:n=m:=J
   rw[this];exact o
  .intro hn;have:Int.ofNat n∈ko s:=by rw[w];exact Ey hn
   unfold ko at this;obtain⟨x,f,e⟩:=lm.1 this;obtain⟨m,o,i⟩:=l x f;refine⟨x,f,?_⟩;rw[i]at e⊢;have:(m:Int)=(n:Int):=e;rw[this]
 induction d generalizing Ld with
 |nil=>cases Ld with
  |nil=>rfl
  |cons p r=>simp[da,iA]at j
 |cons e d y=>cases Ld with
  |nil=>simp[da,iA]at j
  |cons p r=>
   have v:=j;simp only[da,iA,pw,IP,Ms]at v;obtain⟨⟨a,b⟩,c⟩:=v;have hi:=y (Ld:=r) c;show da (((e.1,e.2.1,0)::iH d).filter _) _;rw[Ep,Ep];have k:e.1=I p.1:=a
   by_cases h:p.1∈Ls.map (·.1)
   .rw[B (by rw[u];show¬¬∃x∈s,x.1=e.1;rw[k,q];exact λhh=>hh h),B GU];exact hi
   .rw[gq (by rw[u];show¬∃x∈s,x.1=e.1;rw[k,q];exact h),gq GU];show da ((e.1,e.2.1,0)::_) (iA (p::_));simp only[da,iA,pw,k,b]
    congr 1
def XY {c d:Nat}{Ld Ls:δ fx}(w:IsMap Z c (iA Ld))(u:IsMap Z d (iA Ls))(G:c≠d)(X:Ld.length<=1000000)(s:∀n∈Ld.map (·.1),n<=1000000)(D:Ls.length<=1000000)(o:∀n∈Ls.map (·.1),n<=1000000)(H:∀e∈Ls,e.2.length=512)(r:c<Z.nx):
 Rq0 188 [.map c,.map d] Z λ_ Z'=>Kp [c] Z Z'/\Z'.nx=Z.nx/\IsMap Z' c (iA (qa Ld Ls)):=by
 obtain⟨f,W,T,S,Q⟩:=w.PY X s;obtain⟨es,g,s2,C,z⟩:=u.PY D o
 have l:JQ 512 es:=by
  intro e L;have:(e.1,e.2.1)∈(iA Ls).map (λp=>(I p.1,p.2)):=by rw[<-g];exact Ey L
  obtain⟨q,v,y⟩:=lm.1 this;unfold iA at v;obtain⟨x,k,rfl⟩:=lm.1 v;simp only[Ms]at y;exact⟨al x.2,y.2.symm,by simpa using H x k,bK _⟩
 have P:I0 188 [.map c,.map d] Z=Φ (.ok .undef ⟨Z.m.put c (Φ (.lmap (lT f es))),Z.nx⟩):=by
  show JA 512 [.map c,.map d] Z=_;unfold JA;simp only;rw[T,s2,gq ⟨G,S,C,Q,z,l⟩]
 refine UN P ?_;have F:(⟨Z.m.put c (Φ (.lmap (lT f es))),Z.nx⟩:O)=O.set Z c (.lmap (lT f es)):=rfl;rw[F];refine⟨(Δ _ Z).set _ (.inl V) r,rfl,.inr ⟨lT f es,ao ..,?_,?_⟩⟩
 .unfold lT qa;have h1:=Jp W g;have h2:=Hv g;unfold da at*;rw[wd,h1,h2]
  .unfold iA;simp only[wd]
  .intro e;simp
 .have n1:=w.nd;have n2:=u.nd;rw[ni]at n1 n2⊢;have j:=kP n1;have i:=kP n2
  have:((qa Ld Ls).map (·.1)).Nodup:=by
   unfold qa;rw[wd,zy];refine⟨List.Sublist.nodup (List.Sublist.map _ List.filter_sublist) j,i,λa N b M e=>?_⟩;obtain⟨x,k,rfl⟩:=lm.1 N;have:=(tH.1 k).2;simp only[ws]at this;exact this (e▸M)
  exact Iu this
end
section
variable {Z Z':O} {p a:Nat} {lg:K} {M:cA} {bd bn bi bc:Nat} {F:δ Nat} {D:aX}
def XQ (e:fx)(h:e.1<=2147483647)(d:e.2.length=512):(TZ e).length<=520:=by
 unfold TZ;have h1:=DM e.2;have c:=(gf e.1 h).2;have b:=sF (n:=(mD e.2).length) J;simp only[km];omega
def M7 (l:δ fx)(h:∀e∈l,e.1<=2147483647/\e.2.length=512):(eR l).length<=520*l.length:=by
 induction l with
 |nil=>exact hI _
 |cons e l b=>
  have h1:=XQ e (h e V).1 (h e V).2;have h2:=b λx hx=>h x Hs;have:eR (e::l)=TZ e++eR l:=rfl;rw[this,km,lx];omega
structure ama (N:List fx)(ks:List Nat):Prop where
 m:∀n∈ks,∃s,dm N n=some s/\n<=100000/\s.length=512
def Wb {x:K}{c:δ Nat}{N:δ fx}{C:δ K->O->Prop}(hP:dx Z p a lg {M with now:=N} bd bn bi bc)(lR:dV Z)(hx:∀s,Kp [] Z s->Sl s [] x 1 (cR c))(oL:ama N c)(BS:c.length<=1900)
 (hK:∀s rec,Kp [] Z s->(∃q,Own s rec 1 5 (al (eR (dS N c))) q/\∀b∈q,Z.nx<=b/\b<s.nx)->C [.ptr p 0,rec,x,I c.length,I c.length] s):
 cV (λf u YS=>
 U (R .lss (ν) false (A 4 f) (A 3 f) u) λiJ=>
 aA iJ (
 Lim.idx 1 (A 2 f) (A 4 f) u λiL=>
 fP 5 (A 0 f) u λjQ=>
 U (jk .int (.agg (zr 512)) false jQ iL u) λjD=>
 E (cK 225 (zr 512) u) λjH s7=>
 E (aJ 512 jH jD s7) λ_ s8=>
 bJ (
 Rq0 80 [(A 1 f),iL] s8 λlC r=>
 U (cD 512 1 jH ν ν r) λlD=>
 Rq0 185 [lD,(.str [0])] r λmo j=>
 U (cX .strOf mo j) λmU=>
 Rq0 141 [lC,mU] j λG W=>
 ((True)/\True)/\(True)/\
 U (R .add (ν) true (A 4 f) ϖ W) λoW=>
 YS [(A 0 f),G,(A 2 f),(A 3 f),oW] W)) (C f u)) [.ptr p 0,.ae,x,I c.length,ζ 0] Z:=by
 have BJ:∀i,i<=c.length->(eR (dS N (c.take i))).length<=990000:=λi hi=>by
  have h1:=M7 (dS N (c.take i)) λe he=>by
   unfold dS at he;obtain⟨n,hn,rfl⟩:=lm.1 he;obtain⟨s,h1,h2,h3⟩:=oL.m n (ww hn);simp only[h1,Jd];exact⟨J,h3⟩
  have h2:(dS N (c.take i)).length<=1900:=by unfold dS;simp;omega
  omega
 refine bD (λfu vs s=>∃i rec,fu+i=c.length/\vs=[.ptr p 0,rec,x,I c.length,I i]/\Kp [] Z s/\∃q,Own s rec 1 5 (al (eR (dS N (c.take i)))) q/\∀b∈q,Z.nx<=b/\b<s.nx) ?_ (n:=c.length) ⟨0,.ae,rfl,rfl,Δ _ _,[],.inl ⟨rfl,rfl,rfl⟩,V⟩;rintro fu vs s k ⟨i,rec,hi,rfl,y,q,l,o⟩ next;simp only[ke];rw[dd,af,ag];have Ae:=hP.keep y V;have Me:=Ae.main;have uB:=y.nx
 by_cases tK:i<c.length
 .rw[jp tK,gq rfl];refine(hx s y).idx (i:=i) afJ _ ?_;have e9:(cR c)[i]'(by simpa using tK)=I c[i]:=by simp[cR]
  rw[e9];obtain⟨d,hg,ah,lP⟩:=oL.m c[i] (mp tK);have BQ:=IsMap.lookup (.inl Ae.now) (.agg (zr 512)) false c[i] s rfl;rw[B tW,xS,show dm ({M with now:=N}:cA).now c[i]=Φ d from hg]at BQ;simp only[AR,Jd]at BQ;simp only[fP,rr,Me,kc,io,BQ];have Gy:(al d).length=512:=by simpa using lP
  refine pE Gy (bK _) ?_;have k8:=(Δ [] s).page (al d);have g8:(O.set (O.new s (ϛ (zr 512))) s.nx (ϛ (al d))).m.g s.nx=Φ (ϛ (al d)):=ao ..;have n8:(O.set (O.new s (ϛ (zr 512))) s.nx (ϛ (al d))).nx=s.nx+1:=rfl;generalize O.set (O.new s (ϛ (zr 512))) s.nx (ϛ (al d))=s8 at*;have Y:=l.keep k8 λb v=>⟨(o b v).2,V⟩;rw[aZ];have ai:=BJ i J;refine(qp (Y.sl (X:=[]) λb v=>⟨V,by have:=(o b v).2;omega⟩) J J).mono ?_;intro lC r w;have H:=w.kp;have n9:=H.nx;have G9:cD 512 1 (.ptr s.nx 0) ν ν r=.ok (.slice s.nx 0 512 512 0) r:=rfl;rw[G9,af];have g9:=(H.keep s.nx J V).trans g8;have Q:mP r [s.nx] (.slice s.nx 0 512 512 0) 1 (al d):=λX hX=>.inr ⟨s.nx,0,512,512,0,rfl,by simp[lP],⟨hI _,.inl rfl⟩,.inr ⟨hX s.nx V,J,_,_,_,g9,J,QN⟩⟩;refine(VI Q J J).mono ?_;rintro mo j ⟨P,rfl⟩;rw[P.nil.str,af];have ad:=DM d;have ac:=EX c[i];have ab:=(gf c[i] J).2;refine(AB (w.sl [] V) xI J).mono ?_;intro G W z;refine⟨⟨gt,gt⟩,gt,?_⟩;rw[fV i J,af];have pG:=z.kp;obtain⟨aa,q1,q2,q3⟩:=z
  have T:eR (dS N (c.take (i+1)))=eR (dS N (c.take i))++uv c[i]++(uv (mD d).length++mD d):=by
   rw[su tK];unfold dS;rw[wd,HW];simp[eR,TZ,hg]
  rw[<-T]at q2;have L:=((y.trans k8 V).trans H V).trans pG V;exact next (fu-1) _ _ J ⟨i+1,G,J,rfl,L,aa,q2,λb v=>⟨by have:=(q3 b v).1;omega,(q3 b v).2⟩⟩
 .rw[jo tK,B tW];rw[lw J]at l;have S:i=c.length:=by omega
  subst S;exact hK s rec y ⟨q,l,o⟩
end
