import Derived.Test.YtomffjeofpafnaaGreatDoorPagD
namespace Lim
open Go
noncomputable section
set_option linter.defProp false
set_option maxRecDepth 100000
section
variable {l:List Nat}{n:Nat}{L:List (Nat×iJ)}{mb:Nat}
section
variable {st st':St}
def nL (l:List Nat):List Nat:=l.mergeSort λa b=>decide (a<=b)
def uz (l:List Nat):(nL l).Perm l:=List.mergeSort_perm l _
def sQ :n∈nL l↔n∈l:=(uz l).mem_iff
def xD (h:l.Nodup):(nL l).Nodup:=(uz l).nodup_iff.2 h
def wM (l:List Nat):(nL l).length=l.length:=(uz l).length_eq
def rW {es:List eH}(h:cT es (gE L)):iX es=(L.map (·.1)).map Int.ofNat/\(∀e∈es,∃n:Nat,n∈L.map (·.1)/\e.1=I n):=by
 induction es generalizing L with
 |nil=>cases L with
  |nil=>exact⟨rfl,rq⟩
  |cons p r=>simp[cT,gE]at h
 |cons e es ih=>cases L with
  |nil=>simp[cT,gE]at h
  |cons p r=>
   have h':=h;simp only[cT,gE,aEc,aEX,aFl]at h';obtain⟨⟨a,b⟩,c⟩:=h';obtain⟨i1,i2⟩:=ih (L:=r) c;refine⟨?_,?_⟩
   .show(match e.1 with| .int _ a=>a|_=>0)::iX es=_;rw[a,i1];rfl
   .intro x hx;rcases aDs.1 hx with rfl|hx
    .exact⟨p.1,rq,a⟩
    .obtain⟨n,hn,e⟩:=i2 x hx;exact⟨n,by simp at hn⊢;exact .inr hn,e⟩
def kO (L:List (Nat×iJ)):(gE L).map (·.1)=(L.map (·.1)).map Int.ofNat:=by unfold gE;simp
def iy (h:(l.map Int.ofNat).Nodup):l.Nodup:=by
 induction l with
 |nil=>simp
 |cons a l ih=>
  simp only[aEc,aDG]at h;exact aDG.2 ⟨λhh=>h.1 (aEA hh),ih h.2⟩
def IsMap.Mo {b:Nat}(h:IsMap st b (gE L))(hl:L.length<=1000000)(hk:∀n∈L.map (·.1),n<=1000000):∃es,cT es (gE L)/\mi (st.m.g b)=es/\nu (st.m.g b) es/\iq es:=by
 have je:=h.nd
 have Mo:∀es,cT es (gE L)->iq es:=λes he=>by
  obtain⟨k1,k2⟩:=rW he;refine⟨λe M9=>?_,by rw[k1,<-kO];exact je,by rw[he.len];unfold gE;simp;omega⟩;obtain⟨n,hn,e⟩:=k2 e M9;exact⟨n,e,pX,by have:=hk n hn;omega⟩
 rcases h with⟨es,c,h1,h2,_,h4,h5⟩|⟨es,h1,h2,_⟩
 .exact⟨es,h2,by rw[h1];rfl,by rw[h1];exact⟨rfl,h5,h4⟩,Mo es h2⟩
 .exact⟨es,h2,by rw[h1];rfl,by rw[h1];exact rfl,Mo es h2⟩
def Kc :R 122 [.map mb] st λv st'=>v=.func (.func 163) [] [.ptr st.nx 0]/\st'.m.g st.nx=some (.cells [.map mb] 153 false)/\Kp [] st st'/\st'.nx=st.nx+1:=by
 refine bN ?_;rw[ajT];rw[bW];refine⟨rfl,?_⟩;rw[mB,af];exact⟨rfl,aw _ _,(Kp.refl _ _).new _,rfl⟩
def Bx {bb:Nat}{t:TypeId}{g:Bool}(hb:st.m.g bb=some (.cells [.map mb] t g))(h:IsMap st mb (gE L))(hl:L.length<=1000000)(hk:∀n∈L.map (·.1),n<=1000000):
 R 121 [.func (.func 163) [] [.ptr bb 0]] st (Made 1 3 (cF (nL (L.map (·.1)))) st):=by
 obtain⟨es,e1,e2,e3,e4⟩:=h.Mo hl hk
 have hI:I0 121 [.func (.func 163) [] [.ptr bb 0]] st=some (vu 3 es st):=by
  show ES 163 3 [.func (.func 163) [] [.ptr bb 0]] st=_;unfold ES;simp only[hb];rw[e2,aDy ⟨rfl,e3,e4⟩]
 have hlen:es.length=L.length:=by rw[e1.len];unfold gE;simp
 unfold vu at hI
 by_cases h0:es=[]
 .rw[aDy h0]at hI;refine Re hI ?_;have:L=[]:=by rw[h0]at hlen;exact aDP.1 hlen.symm
  subst this;exact⟨[],Kp.refl _ _,.inl ⟨rfl,by simp[nL,cF],rfl⟩,rq⟩
 .rw[aDv h0]at hI;refine Re hI ?_
  have hs:(oF (iX es)).map I=cF (nL (L.map (·.1))):=by
   rw[(rW e1).1];unfold oF nL cF;rw[<-List.map_mergeSort (r:=λa b=>decide (a<=b)) (f:=Int.ofNat) (s:=λa b=>decide (a<=b)) (λa _ b _=>rq)];rw[aFN];rfl
  rw[hs];refine⟨[st.nx],(Kp.refl [] st).new _,.inr (.inr ⟨st.nx,es.length,rfl,aFg.2 h0,?_,rfl,aw _ _⟩),rq⟩;rw[pJ,wM,aEt,hlen];omega
def nR (d s:List (Nat×iJ)):List (Nat×iJ):=d.filter (λe=>decide (e.1∉s.map (·.1)))++s
def Fs (a b:List (Nat×iJ))(n:Nat):cX (a++b) n=(cX a n).or (cX b n):=by
 induction a with
 |nil=>rfl
 |cons p r ih=>simp only[aEp,cX];split;rfl;exact ih
def l7 {l:List (Nat×iJ)}:cX l n=none↔n∉l.map (·.1):=by
 induction l with
 |nil=>simp[cX]
 |cons p r ih=>simp only[cX,aEc,aDs,aEM];split;simp_all;rw[ih];simp_all
def LF (d s:List (Nat×iJ))(n:Nat):cX (nR d s) n=(cX s n).or (cX d n):=by
 unfold nR;rw[Fs]
 have key:cX (d.filter (λe=>decide (e.1∉s.map (·.1)))) n=if n∈s.map (·.1)then none else cX d n:=by
  induction d with
  |nil=>simp[cX]
  |cons p r ih=>
   rw[aEK]
   by_cases h:p.1∈s.map (·.1)
   .rw[aDv R5,ih];simp only[cX]
    by_cases hn:n=p.1
    .subst hn;rw[aDy h,aDy h]
    .rw[aDv hn]
   .rw[aDy R5];simp only[cX,ih]
    by_cases hn:n=p.1
    .subst hn;rw[aDy rfl,aDv h,aDy rfl]
    .rw[aDv hn,aDv hn]
 rw[key]
 by_cases h:n∈s.map (·.1)
 .rw[aDy h];cases hs:cX s n with
  |none=>exact absurd h (l7.1 hs)
  |some x=>rfl
 .rw[aDv h,l7.2 h];cases cX d n<;>rfl
end
end
def aP.lay (D:aP)(first:Nat)(l:List dN):aP:=l.foldl (λD e=>(D.write (Int.ofNat (first+e.1)) e.2).2) D
def aP.FU (D:aP)(first:Nat)(l:List dN)(e:dN):D.lay first (l++[e])=((D.lay first l).write (Int.ofNat (first+e.1)) e.2).2:=by unfold aP.lay;rw[aGe];rfl
structure CA (D:aP)(first:Nat)(l:List dN):Prop where
 calm:Calm (D.lay first l)
 BY:(D.lay first l).BY
 ao:(D.lay first l).ao=D.ao
 waits:(D.lay first l).waits=D.waits++l.map λe=>(first+e.1,e.2)
 low:∀j,j<first->(D.lay first l).cur j=D.cur j
 other:∀n,n∉l.map (·.1)->(D.lay first l).cur (first+n)=D.cur (first+n)
 at_:(l.map (·.1)).Nodup->∀e∈l,(D.lay first l).cur (first+e.1)=e.2
 set:(D.lay first l).set=D.set
def CA.nil {D:aP}{first:Nat}(h:Calm D)(hw:D.BY):CA D first []:=⟨h,hw,rfl,by simp[aP.lay],λ_ _=>rfl,λ_ _=>rfl,λ_ e he=>(by cases he),rfl⟩
def CA.snoc {D:aP}{first:Nat}{l:List dN}{e:dN}(hi:CA D first l)(he:first+e.1<D.ao.length)(Ky:e.2.length=512)(h0:((D.lay first l).write ((first+e.1:Nat):Int) e.2).1=0):CA D first (l++[e]):=by
 have e1:D.lay first (l++[e])=((D.lay first l).write ((first+e.1:Nat):Int) e.2).2:=D.FU first l e
 rcases hi.calm.write (i:=first+e.1) (s:=e.2) (by rw[hi.ao];exact he) Ky hi.BY with⟨a1,a2,a3,a4,a5,a6,a7⟩|⟨a1,_⟩
 .refine⟨by rw[e1];exact a2,by rw[e1];exact a4,by rw[e1,a3];exact hi.ao,by rw[e1,a5,hi.waits];simp,λj hj=>?_,λn hn=>?_,λje x hx=>?_,by rw[e1,a7];exact hi.set⟩
  .rw[e1,a6,aDv pX];exact hi.low j hj
  .rw[e1,a6,aDv (λhh=>hn (by simp;exact .inr pX))];exact hi.other n λhh=>hn (by simp at hh⊢;exact .inl hh)
  .rw[e1,a6];rw[aEC,aEn]at je;rcases aDB.1 hx with hx|hx
   .have gq:=je.2.2 x.1 (aEA hx) e.1 rq;rw[aDv pX];exact hi.at_ je.1 x hx
   .have:x=e:=by simpa using hx
    subst this;rw[aDy rfl]
 .rw[a1]at h0;cases h0
def dK (d:List dN)(ks:List Nat):List dN:=ks.map λn=>(n,(cX d n).getD [])
def mH (d:List dN)(ks:List Nat):(dK d ks).map (·.1)=ks:=by unfold dK;rw[aFN];exact List.map_id ks
def Fq {d:List dN}{n:Nat}{s:iJ}(h:cX d n=some s):(n,s)∈d:=by
 induction d with
 |nil=>cases h
 |cons p r ih=>
  simp only[cX]at h
  split at h
  .rename_i hn;cases h;subst hn;exact aEw
  .exact aDS _ (ih h)
section
variable {st st':St} {p a:Nat} {lg:CV} {M:bQ} {bd bn bi bc:Nat} {F:List Nat} {D:aP}
def Rg (p a:Nat)(M:bQ)(bn bi bc:Nat)(F:List Nat)(D:aP)(base count:Nat)(P:Nat->Piece)(st:St)(v:CV)(st':St):Prop:=
 v=I 0/\Kp (p::F) st st'/\∃r bd' F' D',cC st' p a (.ptr r 0) {M with dirty:=[]} bd' bn bi bc/\cG st' a F' D'/\Calm D'/\D'.waits=[]/\D'.ao.length=D.ao.length/\fI st' r a (RingM.opened 1 count base P)/\st.nx<=r/\st.nx<=bd'/\r≠bd'/\(∀b∈F',(b∈F\/st.nx<=b)/\b≠r/\b≠bd')/\
  (∀j,D'.cur j=if j=0 then cU base else if j<M.first then D.cur j else (cX M.dirty (j-M.first)).getD (D.cur j))/\D'.set=D.set
structure Z3 (D:aP)(first:Nat)(dirty:List dN)(base:Nat)(D':aP):Prop where
 dead:D'.dead=true
 waits:D'.waits=[]
 len:D'.ao.length=D.ao.length
 cur:(∀j,D'.cur j=D.cur j\/∃n s,j=first+n/\cX dirty n=some s/\D'.cur j=s)\/((D'.cur 0=cU base\/D'.cur 0=D.cur 0)/\∀j,j≠0->D'.cur j=if j<first then D.cur j else (cX dirty (j-first)).getD (D.cur j))
def agK (a:Nat)(F:List Nat)(set:Bool)(S:aP->Prop)(st:St)(v:CV)(st':St):Prop:=v=I 20/\set=true/\∃F' D',cG st' a F' D'/\(∀b∈F',b∈F\/st.nx<=b)/\S D'
def zn (h:cC st p a lg M bd bn bi bc)(hd:cG st a F D)(hc:Calm D)(hw:D.waits=[])(iw:eM st)(hF:∀b∈F,b∉[p,bd,bn,bi,bc])(GA:M.dirty.length<=1000000)(Bh:∀e∈M.dirty,e.1<M.aE/\e.2.length=512)(Mh:M.first+M.aE=D.ao.length)(DU:M.first=1+D.ao.length/4)(h4:4<=D.ao.length)
 {base:Nat} (hb:base<=1000000000) {P:Nat->Piece} (hP:∀j,j<D.ao.length/4->D.cur (1+j)=(P j).bT/\(P j).ok):
 R 73 [.ptr p 0,I base] st λv st'=>Rg p a M bn bi bc F D base (D.ao.length/4) P st v st'\/(Kp (p::F) st st'/\agK a F D.set (Z3 D M.first M.dirty base) st v st'):=by
 refine bN ?_;rw[w73];have hsz:=(show D.ao.length<=65536 from by obtain⟨_,_,_,_,_,_,_,h⟩:=hd;exact h.size);rw[cK];simp only[eW,br,ah,af,aC,h.main,ar,aDx,aDq,aDo,az];refine Kc.mono ?_;rintro _ ey ⟨rfl,qZ,rl,n13⟩;have afw:=h.keep rl rq;refine(Bx qZ afw.dirty GA (λn hn=>?_)).mono ?_
 .obtain⟨e,he,rfl⟩:=aDR.1 hn;have:=(Bh e he).1;omega
 intro x fj Gl;have zK:=Gl.kp;have K14:=rl.trans zK rq;have TZ:=afw.keep zK rq;have Y8:=hd.keep K14 rq;have n14:=K14.nx;have Mk:=hd.lt
 have Kj:Sl fj (p::F) x 1 (cF (nL (M.dirty.map (·.1)))):=Gl.sl _ λb hb=>by
  rcases aDs.1 hb with rfl|hb
  .have:=h.lt b rq;omega
  .have:=Mk b hb;omega
 have ayq:(nL (M.dirty.map (·.1))).length=M.dirty.length:=by rw[wM,aEt]
 have RI:=iy (by rw[<-kO];exact h.dirty.nd);have TH:=xD RI
 have PE:∀n∈nL (M.dirty.map (·.1)),∃s,cX M.dirty n=some s/\n<M.aE/\s.length=512:=λn hn=>by
  rw[sQ]at hn;cases hg:cX M.dirty n with
  |none=>exact absurd hn (l7.1 hg)
  |some s=>have:=Bh _ (Fq hg);exact⟨s,rfl,this.1,this.2⟩
 generalize mc:nL (M.dirty.map (·.1))=ks at*;have hlen:=Kj.len ks.length rq pX fj;rw[hlen,af];simp only[aH,aI];have hD0:D.BY:=abt
 refine bK (λfu vs s=>∃i F1,fu+i=ks.length/\vs=[.ptr p 0,I base,x,I ks.length,I i]/\Kp F fj s/\cG s a F1 (D.lay M.first (dK M.dirty (ks.take i)))/\(∀b∈F1,b∈F\/fj.nx<=b)/\CA D M.first (dK M.dirty (ks.take i))) ?_ (n:=ks.length) ⟨0,F,rfl,rfl,Kp.refl _ _,Y8,adt,.nil hc hD0⟩;rintro fu vs s k ⟨i,F1,hi,rfl,hk,VI,wa,hL⟩ next;simp only[aH,aI];rw[dq,af,ag];have xY:=TZ.keep hk λb hb hh=>hF b hh hb;have Cd:=xY.main;have qA:=hk.nx;have TM:=hk.fresh (K14.fresh iw)
 have xe:∀b∈[p,bd,bn,bi,bc],b∉F1:=λb hb hh=>by
  rcases wa b hh with h1|h1
  .exact hF b h1 hb
  .have:=h.lt b hb;omega
 by_cases Ac:i<ks.length
 .rw[aDz Ac,aDy rfl];refine((Kj.dz (Y:=F) (by intro q hq;left;simp[hq])).mono hk).idx (i:=i) adg _ ?_;have e9:(cF ks)[i]'(by simpa using Ac)=I ks[i]:=by simp[cF]
  rw[e9];obtain⟨sec,hg,hnp,lu⟩:=PE ks[i] (aDL Ac);have zV:=IsMap.lookup xY.dirty (.agg (zr 512)) false ks[i] s rfl;rw[aDv wI,vy,hg]at zV;simp only[aED,aFa]at zV;simp only[br,ah,af,aC,aDx,Cd,ar,aDq,aDo,az,zV];have AO:(aj sec).length=512:=by simpa using lu
  refine lJ AO (bC _) ?_;have k4:=(Kp.refl [] s).page (aj sec);have g4:(St.set (St.new s (.cells (zr 512) 173 false)) s.nx (.cells (aj sec) 173 false)).m.g s.nx=some (.cells (aj sec) 173 false):=aq _ _ _;have n4:(St.set (St.new s (.cells (zr 512) 173 false)) s.nx (.cells (aj sec) 173 false)).nx=s.nx+1:=rfl;generalize St.set (St.new s (.cells (zr 512) 173 false)) s.nx (.cells (aj sec) 173 false)=s4 at*;have RM:=xY.keep k4 rq;have hd4:=VI.keep k4 rq;have hm4:=RM.main;have AL:bR 512 1 (.ptr s.nx 0) none none s4=.ok (.slice s.nx 0 512 512 0) s4:=rfl;have e1:ai .add none false (I M.first) (I ks[i]) s4=.ok (I ((M.first+ks[i]:Nat):Int)) s4:=Sa
  have afI:=VI.lt;have Yg:Sl s4 F1 (.slice s.nx 0 512 512 0) 1 (aj sec):=.inr ⟨s.nx,0,512,512,0,rfl,by simp[lu],⟨aDt _,.inl rfl⟩,.inr ⟨λhh=>by have:=afI _ hh;omega,pX,_,_,_,g4,pX,Wu⟩⟩;simp only[bA,hm4,ar,aDq,aDo,az,e1,af,AL];have ayS:(dK M.dirty (ks.take i)).length<=1000000:=by unfold dK;simp;omega
  refine(vi hd4 (i:=((M.first+ks[i]:Nat):Int)) (k4.fresh TM) (by rw[hL.waits,hw];simp;omega) Yg lu).mono ?_;rintro _ s5 ⟨rfl,k5,F2,hd5,vd⟩
  have hes:dK M.dirty (ks.take i)++[(ks[i],sec)]=dK M.dirty (ks.take (i+1)):=by
   rw[aDH Ac];unfold dK;rw[aEC];simp[hg]
  rcases hL.calm.write (i:=M.first+ks[i]) (s:=sec) (by rw[hL.ao];omega) lu hL.BY with⟨w1,_⟩|⟨w1,w2,w3⟩
  .rw[w1];have e2:ai .neq (some .int) true (I 0) (.int .i64 0) s5=.ok (.bool false) s5:=rfl;refine⟨⟨adu,adu,adu⟩,adu,?_⟩;simp only[e2,af,ag,aDp,aDE,gT i pX];refine next (fu-1) _ _ pX ⟨i+1,F2,pX,rfl,?_,?_,λb hb=>?_,?_⟩
   .exact(hk.trans k4 rq).trans k5 λq hq=>wa q hq
   .rw[<-hes,aP.FU];exact hd5
   .rcases vd b hb with h1|h1
    .exact wa b h1
    .right;omega
   .rw[<-hes];exact hL.snoc (by show M.first+ks[i]<_;omega) lu w1
  .rw[w1];have e2:ai .neq (some .int) true (I 20) (.int .i64 0) s5=.ok (.bool true) s5:=rfl;refine⟨⟨adu,adu,adu⟩,adu,?_⟩;simp only[e2,af,ag,aDQ];rw[hL.set]at w2;rw[hL.ao,hL.waits,hw,aDV]at w3;refine .inr ⟨?_,rfl,w2,F2,_,hd5,λb hb=>?_,w3.dead,w3.waits,w3.len,.inl λj=>?_⟩
   .exact(((K14.mono rq).trans hk λq hq=>.inl WD).trans k4 rq).trans k5 λq hq=>(wa q hq).imp (λh=>WE) λh=>pX
   .rcases vd b hb with h1|h1
    .exact(wa b h1).imp id λh=>pX
    .right;omega
   .rcases w3.cur j with h1|⟨w,h1,h2,h3⟩
    .left;rw[h1,kZ hw]
    .right;rcases aDB.1 h1 with h4|h4
     .obtain⟨e,he,rfl⟩:=aDR.1 h4;unfold dK at he;obtain⟨n,hn,rfl⟩:=aDR.1 he;obtain⟨s',q1,_⟩:=PE n (aEg hn);exact⟨n,s',h2.symm,q1,aaR⟩
     .have:w=(M.first+ks[i],sec):=by simpa using h4
      subst this;exact⟨ks[i],sec,h2.symm,hg,h3⟩
 .rw[aDr Ac,aDv wI];have zP:ks.take i=ks:=aDA pX;rw[zP]at VI hL;have Q1:Kp (p::F) st s:=(K14.mono rq).trans hk λq hq=>.inl WD;have X1:(D.lay M.first (dK M.dirty ks)).waits=(dK M.dirty ks).map λe=>(M.first+e.1,e.2):=by rw[hL.waits,hw,aDV]
  have hel:(dK M.dirty ks).length=ks.length:=by unfold dK;simp
  generalize Zu:D.lay M.first (dK M.dirty ks)=D1 at*;simp only[br,ah,af,aC,aDx,Cd,ar,aDo,az];refine(wc VI (by rw[X1];simp;omega)).mono ?_;rintro _ s6 ⟨rfl,k6,F2,yB,vd⟩;have PB:=hL.ao;rw[Zu]at PB;have e2:∀s,ai .neq (some .int) true (I 0) (.int .i64 0) s=.ok (.bool false) s:=λs=>rfl;have RR:∀s,ai .neq (some .int) true (I 20) (.int .i64 0) s=.ok (.bool true) s:=λs=>rfl;have Zq:=xY.keep k6 xe;have Pt:=Zq.main;have TN:=k6.fresh TM;have n6:=k6.nx
  have Uc:∀b∈F2,b∈F\/fj.nx<=b:=λb hb=>by
   rcases vd b hb with h1|h1
   .exact wa b h1
   .right;omega
  have adL:∀b∈[p,bd,bn,bi,bc],b∉F2:=λb hb hh=>by
   rcases Uc b hh with h1|h1
   .exact hF b h1 hb
   .have:=h.lt b hb;omega
  have Q2:Kp (p::F) st s6:=Q1.trans k6 λq hq=>(wa q hq).imp (λh=>WE) λh=>pX
  have eS:=hL.set;rw[Zu]at eS;have hfl:=hL.calm.flush hL.BY;rw[Zu]at hfl;rcases hfl with⟨f1,f2,f3,f4,f5,f6⟩|⟨f1,f2,f3⟩
  case inr=>
   rw[f1];simp only[RR,af,ag,aDQ];rw[eS]at f2;rw[PB,X1]at f3;refine .inr ⟨Q2,rfl,f2,F2,_,yB,λb hb=>(Uc b hb).imp id λh=>pX,f3.dead,f3.waits,f3.len,.inl λj=>?_⟩;rcases f3.cur j with h1|⟨w,h1,h2,h3⟩
   .left;rw[h1,kZ hw]
   .right;obtain⟨e,he,rfl⟩:=aDR.1 h1;unfold dK at he;obtain⟨n,hn,rfl⟩:=aDR.1 he;obtain⟨s',q1,_⟩:=PE n hn;exact⟨n,s',h2.symm,q1,aaR⟩
  generalize hD2:D1.flush.2=D2 at*;rw[f1];simp only[e2,af,ag,aDp,aDE,Pt,ar,aDo,az];refine(Kx TN yB (by rw[f4];simp) (base:=base) pX).mono ?_;rintro _ s7 ⟨rfl,k7,F3,Ch,yn⟩;have KC:=Zq.keep k7 adL;have Vw:=KC.main;have aoc:=k7.fresh TN;have n7:=k7.nx
  have Ml:∀b∈F3,b∈F\/fj.nx<=b:=λb hb=>by
   rcases yn b hb with h1|h1
   .exact Uc b h1
   .right;omega
  have VL:∀j,j≠0->D2.cur j=if j<M.first then D.cur j else (cX M.dirty (j-M.first)).getD (D.cur j):=by
   intro j hj;rw[f5]
   by_cases hj2:j<M.first
   .rw[aDy hj2];have:=hL.low j hj2
    rwa [Zu]at this
   .rw[aDv hj2];obtain⟨n,rfl⟩:∃n,j=M.first+n:=⟨j-M.first,pX⟩;rw[aFb];cases hg:cX M.dirty n with
    |none=>
     have:=hL.other n (by rw[mH,<-mc,sQ];exact l7.1 hg)
     rwa [Zu]at this
    |some s'=>
     have kX:(n,s')∈dK M.dirty ks:=by
      unfold dK;refine aDR.2 ⟨n,?_,by rw[hg];rfl⟩;rw[<-mc,sQ];exact aDR.2 ⟨_,Fq hg,rfl⟩
     have:=hL.at_ (by rw[mH];exact TH) _ kX;rw[Zu]at this;exact this
  have Za:D2.cur 0=D.cur 0:=by
   rw[f5];have:=hL.low 0 pX
   rwa [Zu]at this
  have Q3:Kp (p::F) st s7:=Q2.trans k7 λq hq=>(Uc q hq).imp (λh=>WE) λh=>pX
  rcases f2.head f4 (by rw[f3,PB];omega) base with⟨g1,g2,g3,g4,g5,g6⟩|⟨g1,g2,g3⟩
  case inr=>
   rw[g1];simp only[RR,af,ag,aDQ];refine .inr ⟨Q3,rfl,by rw[<-eS,<-f6];exact g2,F3,_,Ch,λb hb=>(Ml b hb).imp id λh=>pX,g3.dead,g3.waits,by rw[g3.len,f3,PB],.inr ⟨?_,λj hj=>?_⟩⟩
   .rcases g3.cur 0 with h1|⟨w,h1,h2,h3⟩
    .right;rw[h1,<-kZ f4,Za]
    .have:w=(0,cU base):=by simpa using h1
     subst this;left;exact h3
   .rcases g3.cur j with h1|⟨w,h1,h2,h3⟩
    .rw[h1,<-kZ f4,VL j hj]
    .have:w=(0,cU base):=by simpa using h1
     subst this;exact absurd h2.symm hj
  have tO:∀j,(D2.head base).2.cur j=if j=0 then cU base else if j<M.first then D.cur j else (cX M.dirty (j-M.first)).getD (D.cur j):=by
   intro j;rw[g5]
   by_cases hj:j=0
   .rw[aDy hj,aDy hj]
   .rw[aDv hj,aDv hj];exact VL j hj
  generalize hD3:(D2.head base).2=D3 at*;rw[g1];have Me:D3.ao.length=D.ao.length:=by rw[g3,f3,PB]
  simp only[e2,af,ag,aDp,aDE,bA,Vw,ar,aDo,az];refine(pC Ch).same ?_;rw[Me]
  have hRd:sJ D3 ⟨1,D.ao.length/4,base,base,base⟩ P:=⟨abj,aaW,pX,abm,λj hj=>by
   have hj:j<D.ao.length/4:=hj;show D3.cur (1+j)=_/\_;rw[tO,aDv pX,aDy pX];exact hP j hj⟩
  refine(zf aoc Ch g2.dead hRd hb).mono ?_;rintro _ s9 ⟨r,xo,Fo,Gg,rfl,k9,kj,ui,hFo,hr⟩;have n9:=k9.nx;have hP9:=KC.keep k9 rq;have hd9:=Ch.keep k9 rq;have hm9:=hP9.main;rw[aD,af,aG,aD,af,aG,aG,aD,af];refine⟨⟨⟨by rw[Vw];exact rfl,adu⟩,adu,adu⟩,adu,?_⟩;rw[e2,af,ag,aDv wI,ju,aT];have kA:Kp [] s9 (St.new s9 (.map [] 0)):=(Kp.refl [] s9).new _;have mA:=dt.new s9;have nA:(St.new s9 (.map [] 0)).nx=s9.nx+1:=rfl;generalize St.new s9 (.map [] 0)=sA at*;have hPA:=hP9.keep kA rq;have hdA:=hd9.keep kA rq;have hmA:=hPA.main
  have Gc:∀{s:St} {l:List CV} {x:CV} {o:Nat} {K:St->Prop},s.m.g p=some (.cells l 158 false)->x.cA=[x]->ck x=true->o<l.length->K (St.set s p (.cells (bo l o [x]) 158 false))->lD 1 o (.ptr p 0) x s K:=by
   intro s l x o K hg h1 h2 h3 hK;simp only[lD,br,ah,af,aF,hg,aS,h1,aDx];exact⟨⟨rfl,adi,h3⟩,hK⟩
  refine Gc hmA rfl rfl (by decide:(1:Nat)<16) ?_;refine Gc (aq _ _ _) rfl rfl (by exact(by decide:(4:Nat)<16)) ?_;rw[set_set];have kq:bo (bo [.ptr a 0,lg,I M.first,I M.aE,.map bd,.map bn,I M.kept.root,I M.kept.used,I M.kept.head,I M.kept.free,I M.m.root,I M.m.used,I M.m.head,I M.m.free,.map bi,.map bc] 1 [.ptr r 0]) 4 [.map s9.nx]=[.ptr a 0,.ptr r 0,I M.first,I M.aE,.map s9.nx,.map bn,I M.kept.root,I M.kept.used,I M.kept.head,I M.kept.free,I M.m.root,I M.m.used,I M.m.head,I M.m.free,.map bi,.map bc]:=rfl;rw[kq];have amI:=hPA.lt p rq;have rk:=h.nd;simp only[aDG,aDs,aEe,aEW,aEM]at rk;have kB:Kp [p] sA (St.set sA p (.cells [.ptr a 0,.ptr r 0,I M.first,I M.aE,.map s9.nx,.map bn,I M.kept.root,I M.kept.used,I M.kept.head,I M.kept.free,I M.m.root,I M.m.used,I M.m.head,I M.m.free,.map bi,.map bc] 158 false)):=(Kp.refl _ sA).set _ (.inl rq) amI;have V0:=Ch.lt
  have amN:∀b∈F3,b∉[p]:=λb hb hh=>by
   have hh:b=p:=aaQ
   subst hh;rcases Ml b hb with h1|h1
   .exact hF b h1 rq
   .have:=h.lt b rq;omega
  have Kq:=h.lt;have Vr:=Kq p rq;have Et:=Kq bn rq;have hp3:=Kq bi rq;have hp4:=Kq bc rq;have IU:=kj.1;refine .inl ⟨rfl,?_,r,s9.nx,F3,D3,⟨aq _ _ _,.inl (mA.mono (al _ _ _ _ pX)),hPA.now.mono (al _ _ _ _ (aEr rk.1.2.1)),hPA.idle.mono (al _ _ _ _ (aEr rk.1.2.2.1)),hPA.count.mono (al _ _ _ _ (aEr rk.1.2.2.2)),?_,?_,⟨rfl,rfl,rfl⟩⟩,hdA.keep kB amN,g2,g4,Me,?_,pX,pX,pX,λb hb=>⟨(Ml b hb).imp id λh=>pX,?_,?_⟩,tO,g6.trans (f6.trans eS)⟩
  .exact((Q3.trans k9 rq).trans kA rq).trans kB λq hq=>.inl ado
  .simp only[aDG,aDs,aEe,aEW,aEM];exact⟨⟨pX,rk.1.2.1,rk.1.2.2.1,rk.1.2.2.2⟩,⟨pX,pX,pX⟩,rk.2.2⟩
  .intro b hb;simp at hb;show b<sA.nx;omega
  .exact(kj.keep kA rq).keep kB AI
  .have:=V0 b hb;omega
  .have:=V0 b hb;omega
end
def ki (first aE:Nat)(dirty:List dN)(kept:iA)(fr:List Nat):bQ:=⟨first,aE,dirty,[],kept,kept,fr,[]⟩
def gp {first aE:Nat}{dirty:List dN}{kept:iA}{fr:List Nat}(D:aP)(n:Nat):(ki first aE dirty kept fr).get D n=(cX dirty n).getD (D.cur (first+n)):=by
 unfold ki bQ.get;simp only[cX];cases cX dirty n<;>rfl
def rj.congr {M M':bQ}{D D':aP}{G:GM}(h:rj M D G)(hg:∀n,n<M.aE->M'.get D' n=M.get D n)(h1:M'.aE=M.aE)(h2:M'.m=M.m)(h3:M'.idle=M.idle)(h4:M'.now=M.now)(h5:M'.count=M.count)(h6:M'.first=M.first)(h7:D'.ao.length=D.ao.length):rj M' D' G:=by
 have hm:=h.ok.iv;refine⟨h1.trans h.aE,by rw[h2];exact h.used,by rw[h2];exact h.root,by rw[h2];exact h.head,by rw[h2];exact h.free,by rw[h3];exact h.idle,by rw[h3];exact h.xS,h.ok,by rw[h6,h1,h7];exact h.fits,λn hn=>?_,λn hn=>?_,?_,by rw[h4,h5];exact h.count,by rw[h5];exact h.qH,by rw[h5];exact h.rS⟩
 .rw[hg n (by rw[h.aE];omega)];exact h.len n hn
 .rw[hg n (by rw[h.aE];have:=hn.2.1;omega)];exact h.cont n hn
 .have key:∀l:List Nat,(∀n∈l,n<M.aE)->Ni M D l->Ni M' D' l:=by
   intro l
   induction l with
   |nil=>intro _ _;trivial
   |cons n r ih=>intro h1 h2;exact⟨(hg n (h1 n rq)).trans h2.1,ih (λm hm=>h1 m (by simp[hm])) h2.2⟩
  exact key _ (λn hn=>by rw[h.aE];have:=(h.ok.fr n hn).2;omega) h.chain
structure iK (D:aP)(Gk:GM)(base last:Nat)(P:Nat->Piece)(Ls:List (List dN))(kept:iA):Prop where
 calm:Calm D
 waits:D.waits=[]
 least:64<=D.ao.length
 iv:D.ao.length<=65536
 head:D.cur 0=cU base
 j7:∀j,j<D.ao.length/4->D.cur (1+j)=(P j).bT/\(P j).ok
 laid:iP P (D.ao.length/4) base (Ls.map dJ) last
 le:∀j,j<D.ao.length/4->(P j).n<=last
 room:last<=base+D.ao.length/4
 ph:∀l∈Ls,∀e∈l,e.1<D.ao.length-1-D.ao.length/4/\e.2.length=512
 small:∀l∈Ls,(dJ l).length<=1000000
 rep:rj (ki (1+D.ao.length/4) (D.ao.length-1-D.ao.length/4) (cM [] Ls) kept Gk.fr) D Gk
 zero:(ki (1+D.ao.length/4) (D.ao.length-1-D.ao.length/4) (cM [] Ls) kept Gk.fr).get D 0=bL kept
 root:kept.root<2147483648
def iP.count {P:Nat->Piece}{count:Nat}:∀{rs:List (List UInt8)} {s e:Nat},iP P count s rs e->s+rs.length<=e:=by
 intro rs
 induction rs with
 |nil=>intro s e h;have h:e=s:=h;simp[h]
 |cons r rs ih=>intro s e h;have:=ih h.2;have:=kQ r.length;simp;omega
def ON {m:iA}(h1:m.root<4294967296)(h2:m.used<4294967296)(h3:m.head<4294967296)(h4:m.free<4294967296):SU (bL m)=m:=by
 have e:bL m=be 4 m.root++(be 4 m.used++(be 4 m.head++(be 4 m.free++List.replicate 496 0))):=by
  unfold bL rU lU;generalize List.replicate 496 (0:UInt8)=z;simp only[aEc,List.map_nil,aES,List.flatten_nil,aEs,aDY]
 have t:∀(n:Nat) (r:List UInt8),(be 4 n++r).take 4=be 4 n:=λn r=>aEP (gZ 4 n);have d:∀(n:Nat) (r:List UInt8),(be 4 n++r).drop 4=r:=λn r=>aFZ (gZ 4 n);unfold SU;rw[show 8=4+4 from rfl,show 12=4+(4+4)from rfl];simp only[<-aFR];rw[e,t,d,t,d,t,d,t,uU 4 _ pX,uU 4 _ pX,uU 4 _ pX,uU 4 _ pX]
def iK.UX {D:aP}{Gk:GM}{base last:Nat}{P:Nat->Piece}{Ls:List (List dN)}{kept:iA}(h:iK D Gk base last P Ls kept):SU (bL kept)=kept:=by
 have h1:=h.rep.ok.iv;have h2:=h.rep.ok.size;have h3:=h.rep.used;have h4:=h.rep.head;have h5:=h.rep.free;have iw:=lI Gk.used Gk.fr h.rep.ok.nd λx hx=>(h.rep.ok.fr x hx).2
 have h6:Gk.fr.headD 0<=Gk.used:=by
  cases hf:Gk.fr with
  |nil=>simp
  |cons n r=>have:=(h.rep.ok.fr n (by rw[hf];simp)).2;simp;omega
 have h3:kept.used=Gk.used:=h3;have h4:kept.head=Gk.fr.headD 0:=h4;have h5:kept.free=Gk.fr.length:=h5;exact ON (by have:=h.root;omega) pX pX pX
def iK.opened {D:aP}{Gk:GM}{base last:Nat}{P:Nat->Piece}{Ls:List (List dN)}{kept:iA}(h:iK D Gk base last P Ls kept):ie P (D.ao.length/4) (D.ao.length/4) base [] [] base=(Ls.map dJ,last)/\RingM.opened 1 (D.ao.length/4) base P=⟨1,D.ao.length/4,base,last,last⟩:=by
 have h0:0<D.ao.length/4:=by have:=h.least;omega
 have hn:(P ((last+1)%(D.ao.length/4))).n≠last+1:=by
  have:=h.le ((last+1)%(D.ao.length/4)) (aFM _ h0);omega
 have e:=Ow h.laid hn (D.ao.length/4) [] h.room;rw[aDV]at e;refine⟨e,?_⟩;unfold RingM.opened;rw[e,CJ h.laid h0 h.le]
structure lj (D:aP)(Gk:GM)(base last top:Nat)(P:Nat->Piece)(Ls:List (List dN))(kept:iA):Prop where
 waits:D.waits=[]
 least:64<=D.ao.length
 iv:D.ao.length<=65536
 head:D.cur 0=cU base
 j7:∀j,j<D.ao.length/4->D.cur (1+j)=(P j).bT/\(P j).ok
 SD:ie P (D.ao.length/4) (D.ao.length/4) base [] [] base=(Ls.map dJ,last)
 abP:jT P (D.ao.length/4) base (D.ao.length/4)=top
 le:∀j,j<D.ao.length/4->(P j).n<=top
 bl:base<=last
 lt:last<=top
 ja:Ls.length<=100000
 ph:∀l∈Ls,∀e∈l,e.1<D.ao.length-1-D.ao.length/4/\e.2.length=512
 small:∀l∈Ls,(dJ l).length<=1000000
 rep:rj (ki (1+D.ao.length/4) (D.ao.length-1-D.ao.length/4) (cM [] Ls) kept Gk.fr) D Gk
 zero:(ki (1+D.ao.length/4) (D.ao.length-1-D.ao.length/4) (cM [] Ls) kept Gk.fr).get D 0=bL kept
 root:kept.root<2147483648
def iK.toK {D:aP}{Gk:GM}{base last:Nat}{P:Nat->Piece}{Ls:List (List dN)}{kept:iA}(h:iK D Gk base last P Ls kept):lj D Gk base last last P Ls kept:=by
 have h1:=h.opened.1;have h2:=h.laid.count;rw[aEt]at h2;have h3:=h.room;have h4:=h.iv;exact⟨h.waits,h.least,h.iv,h.head,h.j7,h1,CJ h.laid (by have:=h.least;omega) h.le,h.le,h.laid.le.1,aDt _,pX,h.ph,h.small,h.rep,h.zero,h.root⟩
section
variable {D D':aP} {Gk:GM} {base last top:Nat} {P:Nat->Piece} {Ls:List (List dN)} {kept:iA} {dirty:List dN}
def lj.opened (h:lj D Gk base last top P Ls kept):RingM.opened 1 (D.ao.length/4) base P=⟨1,D.ao.length/4,base,last,top⟩:=by
 unfold RingM.opened;rw[h.SD,h.abP]
def lj.none (h:lj D Gk base last top P Ls kept):ie P (D.ao.length/4) (D.ao.length/4) top [] [] top=([],top)/\jT P (D.ao.length/4) top (D.ao.length/4)=top:=by
 have Cj:=h.least;have hn:=h.le ((top+1)%(D.ao.length/4)) (aFM _ pX);constructor
 .obtain⟨f,hf⟩:∃f,D.ao.length/4=f+1:=⟨D.ao.length/4-1,pX⟩
  have e:ie P (D.ao.length/4) (f+1) top [] [] top=([],top):=by
   rw[ie,aDv pX]
  rw[<-hf]at e;exact e
 .refine Nat.le_antisymm (yr P _ top top (aDt _) h.le _ (aDt _)) ?_;exact pz P _ top 0 _ (aFH _)
def lj.settled (h:lj D Gk base last top P Ls kept)(hd:∀n,cX dirty n=cX (cM [] Ls) n)(hc:Calm D')(hw:D'.waits=[])(hl:D'.ao.length=D.ao.length)
 (tO:∀j,D'.cur j=if j=0 then cU top else if j<1+D.ao.length/4 then D.cur j else (cX dirty (j-(1+D.ao.length/4))).getD (D.cur j)):iK D' Gk top top P [] kept:=by
 have hg:∀n,(ki (1+D.ao.length/4) (D.ao.length-1-D.ao.length/4) [] kept Gk.fr).get D' n=(ki (1+D.ao.length/4) (D.ao.length-1-D.ao.length/4) (cM [] Ls) kept Gk.fr).get D n:=λn=>by
  rw[gp,gp,tO,aDv pX,aDv pX,aFb,hd];rfl
 refine⟨hc,hw,by rw[hl];exact h.least,by rw[hl];exact h.iv,by rw[tO,aDy rfl],λj hj=>?_,rfl,by rw[hl];exact h.le,pX,rq,rq,?_,?_,h.root⟩
 .rw[hl]at hj;rw[tO,aDv pX,aDy pX];exact h.j7 j hj
 .rw[hl];exact h.rep.congr (λn _=>hg n) rfl rfl rfl rfl rfl rfl hl
 .rw[hl];exact(hg 0).trans h.zero
def lj.to (h:lj D Gk base last top P Ls kept)(hw:D'.waits=[])(hl:D'.ao.length=D.ao.length)(h0:D'.cur 0=D.cur 0)(h1:∀j,j<D.ao.length/4->D'.cur (1+j)=D.cur (1+j))
 (h2:∀n,cX (cM [] Ls) n=Option.none->D'.cur (1+D.ao.length/4+n)=D.cur (1+D.ao.length/4+n)):lj D' Gk base last top P Ls kept:=by
 have hg:∀n,(ki (1+D.ao.length/4) (D.ao.length-1-D.ao.length/4) (cM [] Ls) kept Gk.fr).get D' n=(ki (1+D.ao.length/4) (D.ao.length-1-D.ao.length/4) (cM [] Ls) kept Gk.fr).get D n:=λn=>by
  rw[gp,gp];cases hp:cX (cM [] Ls) n with
  |none=>rw[h2 n hp]
  |some s=>rfl
 refine⟨hw,by rw[hl];exact h.least,by rw[hl];exact h.iv,h0.trans h.head,λj hj=>?_,by rw[hl];exact h.SD,by rw[hl];exact h.abP,by rw[hl];exact h.le,h.bl,h.lt,h.ja,by rw[hl];exact h.ph,h.small,?_,?_,h.root⟩
 .rw[hl]at hj;rw[h1 j hj];exact h.j7 j hj
 .rw[hl];exact h.rep.congr (λn _=>hg n) rfl rfl rfl rfl rfl rfl hl
 .rw[hl];exact(hg 0).trans h.zero
def lj.Xl (h:lj D Gk base last top P Ls kept):lj (mT D.ao) Gk base last top P Ls kept:=by
 have e:∀j,(mT D.ao).cur j=D.cur j:=λj=>by rw[kZ (D:=mT D.ao) rfl,kZ h.waits];rfl
 exact h.to rfl rfl (e 0) (λj _=>e _) λn _=>e _
def lj.agw (h:lj D Gk base last top P Ls kept)(hd:∀n,cX dirty n=cX (cM [] Ls) n)(hs:Z3 D (1+D.ao.length/4) dirty top D'):∃base' last' HK,lj D' Gk base' last' top P HK kept:=by
 rcases hs.cur with hc|⟨PU,hc⟩
 .refine⟨_,_,_,h.to hs.waits hs.len ?_ (λj hj=>?_) λn hn=>?_⟩
  .rcases hc 0 with h1|⟨n,s,h1,_⟩
   .exact h1
   .omega
  .rcases hc (1+j)with h1|⟨n,s,h1,_⟩
   .exact h1
   .omega
  .rcases hc (1+D.ao.length/4+n)with h1|⟨m,s,h1,h2,_⟩
   .exact h1
   .have:m=n:=by omega
    subst this;rw[hd,hn]at h2;cases h2
 .have h1:∀j,j<D.ao.length/4->D'.cur (1+j)=D.cur (1+j):=λj hj=>by rw[hc _ pX,aDy pX]
  rcases PU with h0|h0
  .have hg:∀n,(ki (1+D.ao.length/4) (D.ao.length-1-D.ao.length/4) [] kept Gk.fr).get D' n=(ki (1+D.ao.length/4) (D.ao.length-1-D.ao.length/4) (cM [] Ls) kept Gk.fr).get D n:=λn=>by
    rw[gp,gp,hc _ pX,aDv pX,aFb,hd];rfl
   obtain⟨n1,n2⟩:=h.none;refine⟨top,top,[],hs.waits,by rw[hs.len];exact h.least,by rw[hs.len];exact h.iv,h0,λj hj=>?_,by rw[hs.len];exact n1,by rw[hs.len];exact n2,by rw[hs.len];exact h.le,aDt _,aDt _,rq,rq,rq,?_,?_,h.root⟩
   .rw[hs.len]at hj;rw[h1 j hj];exact h.j7 j hj
   .rw[hs.len];exact h.rep.congr (λn _=>hg n) rfl rfl rfl rfl rfl rfl hs.len
   .rw[hs.len];exact(hg 0).trans h.zero
  .refine⟨_,_,_,h.to hs.waits hs.len h0 h1 λn hn=>?_⟩;rw[hc _ pX,aDv pX,aFb,hd,hn];rfl
end
def Ux (Gk:GM)(N T:Nat)(D:aP):Prop:=D.dead=true/\D.ao.length=N/\∃base last top P Ls kept,lj D Gk base last top P Ls kept/\top<=T
structure jE (π:PI)(st:St)(Gk:GM)(T:Nat):Prop where
 ex:∃base last P Ls r,iK π.D Gk base last P Ls π.kept/\last<=T/\π.lg=.ptr r 0/\fI st r π.a ⟨1,π.D.ao.length/4,base,last,last⟩/\r∉π.all/\∀n,cX π.dirty n=cX (cM [] Ls) n
 first:π.first=1+π.D.ao.length/4
 ph:∀e∈π.dirty,e.1<π.D.ao.length-1-π.D.ao.length/4/\e.2.length=512
 nd:(π.dirty.map (·.1)).Nodup
section
variable {π:PI} {st st':St} {Gk:GM} {T:Nat}
def jE.keep {X:List Nat}(h:jE π st Gk T)(hk:Kp X st st')(hx:∀r,π.lg=.ptr r 0->r∉X):jE π st' Gk T:=by
 obtain⟨base,last,P,Ls,r,a,b,c,d,e,f⟩:=h.ex;exact⟨⟨base,last,P,Ls,r,a,b,c,d.keep hk (hx r c),e,f⟩,h.first,h.ph,h.nd⟩
end
def QU (l:List UInt8)(i:Nat):og (l.take i)<=og l:=by
 have key:∀(b:List UInt8) (acc:Nat),acc<=b.foldl (λa b=>a*256+b.toNat) acc:=by
  intro b
  induction b with
  |nil=>intro acc;exact aDt _
  |cons x b ih=>intro acc;rw[List.foldl_cons];exact aEB pX (ih _)
 have e:og l=(l.drop i).foldl (λa b=>a*256+b.toNat) (og (l.take i)):=by
  unfold og;rw[<-aGe,aEd]
 rw[e];exact key _ _
def Fj {d:List dN}{n:Nat}{s:iJ}{e:dN}(h:e∈gW d n s):e∈d\/e=(n,s):=by
 induction d with
 |nil=>right;simpa[gW]using h
 |cons p r ih=>
  simp only[gW]at h
  split at h
  .rcases aDs.1 h with h|h
   .exact .inr h
   .exact .inl (aDS _ h)
  .rcases aDs.1 h with h|h
   .exact .inl (by rw[h];exact aEw)
   .exact(ih h).imp (aDS _) id
def LC {Q:dN->Prop}:∀{l d:List dN},(∀e∈l,Q e)->(∀e∈d,Q e)->∀e∈rf d l,Q e:=by
 intro l
 induction l with
 |nil=>intro d _ h;exact h
 |cons x l ih=>
  intro d h1 h2;show∀e∈rf (gW d x.1 x.2) l,Q e;refine ih (λe he=>h1 e (by simp[he])) λe he=>?_;rcases Fj he with h|h
  .exact h2 e h
  .rw[h];exact h1 x rq
def Db {Q:dN->Prop}:∀{Ls:List (List dN)} {d:List dN},(∀l∈Ls,∀e∈l,Q e)->(∀e∈d,Q e)->∀e∈cM d Ls,Q e:=by
 intro Ls
 induction Ls with
 |nil=>intro d _ h;exact h
 |cons l Ls ih=>intro d h1 h2;exact ih (λl' Cf=>h1 l' (by simp[Cf])) (LC (h1 l rq) h2)
def yI (a:Nat)(F:List Nat)(D:aP)(Gk:GM)(T:Nat)(st:St)(v:CV)(st':St):Prop:=
 ∃π:PI,v=.tuple [.ptr π.p 0,I 0]/\π.a=a/\Pg π st' Gk/\jE π st' Gk T/\Kp F st st'/\(∀b∈π.all,b∈F\/st.nx<=b)/\st.nx<=π.p/\Calm π.D/\π.D.ao.length=D.ao.length/\(∃r,π.lg=.ptr r 0/\st.nx<=r)/\π.D.set=D.set
section
variable {st st':St} {a:Nat} {F:List Nat} {D:aP}
def JU (hd:cG st a F D)(iw:eM st)(GD:Calm D){Gk:GM}{base last top:Nat}{P:Nat->Piece}{Ls:List (List dN)}{kept:iA}(h:lj D Gk base last top P Ls kept)(hb:top<=1000000000):R 23 [.ptr a 0] st λv st'=>yI a F D Gk top st v st'\/(Kp F st st'/\∃e,v=.tuple [.bk,e]/\agK a F D.set (Ux Gk D.ao.length top) st e st'):=by
 refine bN ?_;rw[w23];have ayn:=h.least;have anB:=h.iv;have si:=h.bl;have aym:=h.lt;rw[c8,af,ag,aDv wI];have Bc:=yv hd 0
 have Yr:D.read 0=(0,cU base):=by
  have:=GD.read (i:=0) pX;rw[h.head]at this;exact this
 refine Bc.mono ?_;intro v s1 hv;rw[Yr,aDy rfl]at hv;obtain⟨k1,_,b,rfl,gb,KB,HH⟩:=hv;rw[aD,af,aG,aD,af];have e2:∀s,ai .neq (some .int) true (I 0) (.int .i64 0) s=.ok (.bool false) s:=λs=>rfl;rw[e2,af,ag,aDv wI];have Na:=hd.keep k1 rq;refine(wY Na).same ?_;have hlt:ai .lss none true (I D.ao.length) (.int .i64 64) s1=.ok (.bool false) s1:=WO
 have hhl:=qB base;have sl1:Sl s1 [] (.slice b 0 512 512 1) 1 (aj (cU base)):=.inr ⟨b,0,512,512,1,rfl,by simp[hhl],⟨aDt _,.inr rfl⟩,.inr ⟨rq,HH,_,_,_,gb,by simp[hhl],by rw[aDX,aDA (by simp[hhl])]⟩⟩;have hbc:(aj (cU base)).length=512*1:=by simp[hhl]
 obtain⟨v8,q1,q2⟩:=sl1.hi pX hbc (h:=8) pX s1;have Qy:cU base=[98,117,116,116,101,114,121,49]++(be 8 base++List.replicate 496 0):=by unfold cU;rw[aDY]
 have Wa:(aj (cU base)).take (8*1)=aj [98,117,116,116,101,114,121,49]:=by
  rw[Qy,bF,aEP rq]
 rw[Wa]at q2;have q3:=q2.str;have q1':aN 1 (.slice b 0 512 512 1) none (some (.int .i64 8)) s1=.ok v8 s1:=q1
 have e8:(cU base)[8]?=some (UInt8.ofNat (base/256^7%256)):=by
  rw[Qy,aEF rq,yH];rfl
 have e80:UInt8.ofNat (base/256^7%256)=0:=by
  have:base/256^7=0:=Nat.div_eq_of_lt pX;rw[this];rfl
 have hix:cQ 1 (.slice b 0 512 512 1) (.int .i64 8) s1=.ok (.ptr b 8) s1:=by
  have:=fU (size:=1) (off:=0) (cap:=512) (grow:=1) (i:=8) (len:=512) pX (.inr pX) s1 (b:=b);exact this
 have sh:(aj (cU base))[8]?=some (.int .u8 0):=by
  unfold aj;rw[aEf,e8,e80];rfl
 have Cg:ai .gtr none true (.int .u8 0) (.int .u8 127) s1=.ok (.bool false) s1:=rfl;rw[hlt,af];simp only[aL,aDp,aDE,aDI,bp,af,q1',q3,dY,lH,aEq,aDJ,aJ,xd,hix,aC,gb,ar,sh,az,Cg,ag];refine(JZ Na pX).mono ?_;rintro _ s3 ⟨k3,p,bd,bn,bi,bc,rfl,P4,aeF⟩;have hd3:=Na.keep k3 rq;have n1:=k1.nx;have n3:=k3.nx;rw[bA];refine(pC hd3).same ?_;have sl3:=sl1.mono k3;obtain⟨mO,r1,r2⟩:=sl3.both pX hbc (l:=8) (h:=16) pX pX s3
 have aqt:((aj (cU base)).drop (8*1)).take ((16-8)*1)=aj (be 8 base):=by
  rw[Qy,bF,aFZ rq,bF,aEP (by simp[gZ])]
 rw[aqt]at r2;have r1':aN 1 (.slice b 0 512 512 1) (some (.int .i64 8)) (some (.int .i64 16)) s3=.ok mO s3:=r1;rw[r1',af];have hbe:=uU 8 base pX;refine(sY r2 (by rw[gZ];omega) (λi=>by have:=QU (be 8 base) i;omega)).same ?_;rw[hbe];have aeI:=k3.fresh (k1.fresh iw);have hRd:sJ D ⟨1,D.ao.length/4,base,base,base⟩ P:=⟨abj,aaW,anB,abm,λj hj=>h.j7 j hj⟩;refine(zf aeI hd3 GD.dead hRd pX).mono ?_;rintro _ s6 ⟨r,xo,Fo,Gg,rfl,k6,kj,ui,hFo,hr⟩;have o1:=h.SD;have o2:=h.opened;rw[o1]at ui;rw[o2]at kj;have n6:=k6.nx;have Zq:=P4.keep k6 rq;have yB:=hd3.keep k6 rq;refine⟨adu,adu,?_⟩;have e01:ai .eql (some .int) true (I 0) (.int .i64 1) s6=.ok (.bool false) s6:=rfl;have e00:ai .eql (some .int) true (I 0) (.int .i64 0) s6=.ok (.bool true) s6:=rfl;have e02:ai .neq (some .int) true (I 0) (.int .i64 0) s6=.ok (.bool false) s6:=rfl;rw[e01,af];simp only[aL,aDp,aDE,aDI,bp,af,e00,aDQ,eE];have afg:=P4.lt;have afk:=afg bd rq;have Zc:=h.ja;refine(Lw (M:=eo D.ao.length) (Ls:=Ls) Zq ui (λb hb e=>by have:=hFo b (.inl hb);omega) (λb hb e=>by have:=hFo b (.inr hb);omega) (λl hl e he=>h.ph l hl e he) h.small pX (by show D.ao.length-1-D.ao.length/4<=_;omega)).mono ?_;rintro _ s7 ⟨rfl,k7,KC⟩;have Y7:cM (eo D.ao.length).dirty Ls=cM [] Ls:=rfl;rw[Y7]at KC;have n7:=k7.nx;have wa:=hd.lt
 have Ch:=yB.keep k7 λb hb hh=>by
  have:=wa b hb;have:=aeF bd rq;simp at hh;omega
 have Yq:=kj.keep k7 AI;have ZR:∀s,ai .neq (some .int) true (I 0) (.int .i64 0) s=.ok (.bool false) s:=λs=>rfl;simp only[cN,aDJ,af,aJ,aDQ,aDp,aDE,ag,ZR];have Vw:=KC.main
 have Gc:∀{s:St} {l:List CV} {x:CV} {o:Nat} {K:St->Prop},s.m.g p=some (.cells l 158 false)->x.cA=[x]->ck x=true->o<l.length->K (St.set s p (.cells (bo l o [x]) 158 false))->lD 1 o (.ptr p 0) x s K:=by
  intro s l x o K hg h1 h2 h3 hK;simp only[lD,br,ah,af,aF,hg,aS,h1,aDx];exact⟨⟨rfl,adi,h3⟩,hK⟩
 refine Gc Vw rfl rfl (by decide:(1:Nat)<16) ?_;have rk:=KC.nd;simp only[aDG,aDs,aEe,aEW,aEM]at rk;have IZ:=KC.lt p rq
 have hP8:cC (St.set s7 p (.cells (bo [.ptr a 0,.bk,I (1+D.ao.length/4:Nat),I (D.ao.length-1-D.ao.length/4:Nat),.map bd,.map bn,I fV.root,I fV.used,I fV.head,I fV.free,I fV.root,I fV.used,I fV.head,I fV.free,.map bi,.map bc] 1 [.ptr r 0]) 158 false)) p a (.ptr r 0) {eo D.ao.length with dirty:=cM [] Ls} bd bn bi bc:=
  ⟨aq _ _ _,KC.dirty.mono (al _ _ _ _ (aEr rk.1.1)),KC.now.mono (al _ _ _ _ (aEr rk.1.2.1)),KC.idle.mono (al _ _ _ _ (aEr rk.1.2.2.1)),KC.count.mono (al _ _ _ _ (aEr rk.1.2.2.2)),KC.nd,KC.lt,⟨rfl,rfl,rfl⟩⟩
 have k8:Kp [p] s7 (St.set s7 p (.cells (bo [.ptr a 0,.bk,I (1+D.ao.length/4:Nat),I (D.ao.length-1-D.ao.length/4:Nat),.map bd,.map bn,I fV.root,I fV.used,I fV.head,I fV.free,I fV.root,I fV.used,I fV.head,I fV.free,.map bi,.map bc] 1 [.ptr r 0]) 158 false)):=(Kp.refl _ s7).set _ (.inl rq) IZ;have n8:(St.set s7 p (.cells (bo [.ptr a 0,.bk,I (1+D.ao.length/4:Nat),I (D.ao.length-1-D.ao.length/4:Nat),.map bd,.map bn,I fV.root,I fV.used,I fV.head,I fV.free,I fV.root,I fV.used,I fV.head,I fV.free,.map bi,.map bc] 1 [.ptr r 0]) 158 false)).nx=s7.nx:=rfl;generalize hS8:St.set s7 p (.cells (bo [.ptr a 0,.bk,I (1+D.ao.length/4:Nat),I (D.ao.length-1-D.ao.length/4:Nat),.map bd,.map bn,I fV.root,I fV.used,I fV.head,I fV.free,I fV.root,I fV.used,I fV.head,I fV.free,.map bi,.map bc] 1 [.ptr r 0]) 158 false)=s8 at*;rw[show St.set s7 p (.cells (bo [.ptr a 0,.bk,I (eo D.ao.length).first,I (eo D.ao.length).aE,.map bd,.map bn,I (eo D.ao.length).kept.root,I (eo D.ao.length).kept.used,I (eo D.ao.length).kept.head,I (eo D.ao.length).kept.free,I (eo D.ao.length).m.root,I (eo D.ao.length).m.used,I (eo D.ao.length).m.head,I (eo D.ao.length).m.free,.map bi,.map bc] 1 [.ptr r 0]) 158 false)=s8 from hS8];have jW:=aeF;have amJ:=jW p rq;have ate:=jW bd rq;have atc:=jW bn rq;have atd:=jW bi rq;have atf:=jW bc rq;have Ex:=Ch.keep k8 λb hb hh=>by have:=wa b hb;simp at hh;omega
 have xe:=afg p rq;have Yp:=Yq.keep k8 AI;refine(NH Yp).same ?_;have Y1:=k8.fresh (k7.fresh (k6.fresh aeI));have RI:((cM [] Ls).map (·.1)).Nodup:=iy (by rw[<-kO];exact KC.dirty.nd);have Gz:=Db h.ph (d:=[]) rq
 have GA:(cM [] Ls).length<=65536:=by
  have:=lI 65536 ((cM [] Ls).map (·.1)) RI λx hx=>by
   obtain⟨e,he,rfl⟩:=aDR.1 hx;have:=(Gz e he).1;omega
  rwa [aEt]at this
 have hFd:∀b∈F,b∉[p,bd,bn,bi,bc]:=λb hb hh=>by
  have:=wa b hb;have:=jW b hh;omega
 refine(zn (M:={eo D.ao.length with dirty:=cM [] Ls}) hP8 Ex GD h.waits Y1 hFd (by show(cM [] Ls).length<=_;omega) (λe he=>Gz e he) (by show 1+D.ao.length/4+(D.ao.length-1-D.ao.length/4)=_;omega) rfl pX hb h.j7).mono ?_;rintro v10 dp (⟨rfl,rn,r2,bd2,F2,D2,ym,Mi,Nb,Kg,Ev,Kn,Cb,DX,gq,vd,tO,Pf⟩|⟨rn,rfl,eS,F2,D2,Mi,vd,HA⟩)
 case inr=>
  have RR:ai .neq (some .int) true (I 20) (.int .i64 0) dp=.ok (.bool true) dp:=rfl;rw[RR,af,ag,aDy rfl];obtain⟨b',l',HK,hK'⟩:=h.agw (λn=>rfl) HA;refine .inr ⟨?_,_,rfl,rfl,eS,F2,D2,Mi,λb hb=>(vd b hb).imp id λh=>pX,HA.dead,HA.len,b',l',top,P,HK,kept,hK',aDt _⟩;have q0:Kp F st s6:=((k1.trans k3 rq).trans k6 rq).mono rq;have q1:=q0.trans k7 (by intro q hq;right;simp at hq;omega);have q2:=q1.trans k8 (by intro q hq;right;simp at hq;omega);exact q2.trans rn (by intro q hq;rcases aDs.1 hq with rfl|hq;right;omega;left;exact hq)
 have Pp:=h.settled (dirty:=cM [] Ls) (λn=>rfl) Nb Kg Ev tO;rw[ZR,af,ag,aDv wI];have hz:=Pp.zero;have fP:=Pp.rep;rw[Ev]at hz fP;have Vu:=fP.ok.iv;have axW:D.ao.length-1-D.ao.length/4=Gk.aE:=fP.aE;have LR:=rn.nx
 have Zt:∀b∈F2,b≠p:=λb hb e=>by
  rcases(vd b hb).1 with h1|h1
  .have:=wa b h1;omega
  .omega
 refine(Hl (m':=kept) (frs:=Gk.fr) ym Mi Nb.dead Zt hz Pp.UX (by show 1+D.ao.length/4+(D.ao.length-1-D.ao.length/4)<=_;omega) (by show 0<D.ao.length-1-D.ao.length/4;omega) fP.head (λn hn=>⟨(fP.ok.fr n hn).1,by show n<D.ao.length-1-D.ao.length/4;have:=(fP.ok.fr n hn).2;omega⟩) fP.ok.nd (fP.chain.congr λn _=>rfl)).mono ?_;rintro _ c9 ⟨rfl,rh,RS,RT,RU,yl,iZ⟩;have h11:=yl.lt;have Km:=Kn.keep rh AI;have afH:=Mi.lt;have asw:=Kn.1;have aoO:=ym.lt bd2 rq;have Y9:=Mi.keep rh λb hb hh=>Zt b hb aaQ;have Cc:=iZ RS rq;have hn2:=iZ RT rq;have hn3:=iZ RU rq;rw[ZR,af,ag,aDv wI];refine .inl ⟨⟨p,a,.ptr r2 0,bd2,RS,RT,RU,F2,D2,[],kept,1+D.ao.length/4⟩,rfl,rfl,⟨_,yl,fP,Y9,Nb.dead,λb hb hh=>?_,rfl,rfl,rfl⟩,⟨⟨top,top,P,[],r2,Pp,aDt _,rfl,?_,?_,λn=>rfl⟩,by show 1+D.ao.length/4=1+D2.ao.length/4;rw[Ev],rq,rq⟩,?_,?_,by show st.nx<=p;omega,Nb,Ev,⟨r2,rfl,pX⟩,Pf⟩
 .have h1:=afH b hb;have h2:=vd b hb;have h3:=Zt b hb;simp at hh;rcases hh with hh|hh|hh|hh|hh
  .exact h3 hh
  .exact h2.2.2 hh
  .omega
  .omega
  .omega
 .have:=(Pp.opened).2;rw[Ev]at this;rw[this]at Km;show fI c9 r2 a ⟨1,D2.ao.length/4,top,top,top⟩;rw[Ev];exact Km
 .unfold PI.all;simp only[aDs,aEM];exact⟨pX,gq,pX,pX,pX,λhh=>(vd r2 hh).2.1 rfl⟩
 .have q0:Kp F st s6:=((k1.trans k3 rq).trans k6 rq).mono rq;have q1:=q0.trans k7 (by intro q hq;right;simp at hq;omega);have q2:=q1.trans k8 (by intro q hq;right;simp at hq;omega);have q3:=q2.trans rn (by intro q hq;rcases aDs.1 hq with rfl|hq;right;omega;left;exact hq);exact q3.trans rh (by intro q hq;right;simp at hq;omega)
 .intro b hb;unfold PI.all at hb;simp only[aDs]at hb;rcases hb with hb|hb|hb|hb|hb|hb
  .right;omega
  .right;omega
  .right;omega
  .right;omega
  .right;omega
  .rcases(vd b hb).1 with h1|h1
   .left;exact h1
   .right;omega
end
