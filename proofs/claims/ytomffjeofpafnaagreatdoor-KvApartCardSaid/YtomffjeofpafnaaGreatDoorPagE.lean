import Derived.Test.YtomffjeofpafnaaGreatDoorPagD
namespace Lim
open Go
noncomputable section
set_option linter.defProp false
set_option maxRecDepth 100000
section
variable {l:List Nat}{n:Nat}{L:List (Nat×jU)}{mb:Nat}
section
variable {st st':St}
def nR (l:List Nat):List Nat:=l.mergeSort λa b=>decide (a<=b)
def vh (l:List Nat):(nR l).Perm l:=List.mergeSort_perm l _
def tD :n∈nR l↔n∈l:=(vh l).mem_iff
def yd (h:l.Nodup):(nR l).Nodup:=(vh l).nodup_iff.2 h
def xz (l:List Nat):(nR l).length=l.length:=(vh l).length_eq
def sN {es:List eS}(h:cY es (gP L)):jr es=(L.map (·.1)).map Int.ofNat/\(∀e∈es,∃n:Nat,n∈L.map (·.1)/\e.1=I n):=by
 induction es generalizing L with
 |nil=>cases L with
  |nil=>exact⟨rfl,uG⟩
  |cons p r=>simp[cY,gP]at h
 |cons e es ih=>cases L with
  |nil=>simp[cY,gP]at h
  |cons p r=>
   have h':=h;simp only[cY,gP,aFv,aGn,aGA]at h';obtain⟨⟨a,b⟩,c⟩:=h';obtain⟨i1,i2⟩:=ih (L:=r) c;refine⟨?_,?_⟩
   .show(match e.1 with| .int _ a=>a|_=>0)::jr es=_;rw[a,i1];rfl
   .intro x hx;rcases aEP.1 hx with rfl|hx
    .exact⟨p.1,uG,a⟩
    .obtain⟨n,hn,e⟩:=i2 x hx;exact⟨n,by simp at hn⊢;exact .inr hn,e⟩
def kW (L:List (Nat×jU)):(gP L).map (·.1)=(L.map (·.1)).map Int.ofNat:=by unfold gP;simp
def iP (h:(l.map Int.ofNat).Nodup):l.Nodup:=by
 induction l with
 |nil=>simp
 |cons a l ih=>
  simp only[aFv,aFd]at h;exact aFd.2 ⟨λhh=>h.1 (aFX hh),ih h.2⟩
def IsMap.NC {b:Nat}(h:IsMap st b (gP L))(hl:L.length<=1000000)(hk:∀n∈L.map (·.1),n<=1000000):∃es,cY es (gP L)/\mi (st.m.g b)=es/\nG (st.m.g b) es/\iG es:=by
 have ja:=h.nd
 have NC:∀es,cY es (gP L)->iG es:=λes he=>by
  obtain⟨k1,k2⟩:=sN he;refine⟨λe Ru=>?_,by rw[k1,<-kW];exact ja,by rw[he.len];unfold gP;simp;omega⟩;obtain⟨n,hn,e⟩:=k2 e Ru;exact⟨n,e,qE,by have:=hk n hn;omega⟩
 rcases h with⟨es,c,h1,h2,_,h4,h5⟩|⟨es,h1,h2,_⟩
 .exact⟨es,h2,by rw[h1];rfl,by rw[h1];exact⟨rfl,h5,h4⟩,NC es h2⟩
 .exact⟨es,h2,by rw[h1];rfl,by rw[h1];exact rfl,NC es h2⟩
def Lo :R 122 [.map mb] st λv st'=>v=.func (.func 163) [] [.ptr st.nx 0]/\st'.m.g st.nx=some (.cells [.map mb] 153 false)/\Kp [] st st'/\st'.nx=st.nx+1:=by
 refine bP ?_;rw[akX];rw[bV];refine⟨rfl,?_⟩;rw[lB,af];exact⟨rfl,ao _ _,(Kp.refl _ _).new _,rfl⟩
def Co {bb:Nat}{t:TypeId}{g:Bool}(hb:st.m.g bb=some (.cells [.map mb] t g))(h:IsMap st mb (gP L))(hl:L.length<=1000000)(hk:∀n∈L.map (·.1),n<=1000000):
 R 121 [.func (.func 163) [] [.ptr bb 0]] st (Made 1 3 (cJ (nR (L.map (·.1)))) st):=by
 obtain⟨es,e1,e2,e3,e4⟩:=h.NC hl hk
 have hI:I0 121 [.func (.func 163) [] [.ptr bb 0]] st=some (wa 3 es st):=by
  show FL 163 3 [.func (.func 163) [] [.ptr bb 0]] st=_;unfold FL;simp only[hb];rw[e2,aEW ⟨rfl,e3,e4⟩]
 have hlen:es.length=L.length:=by rw[e1.len];unfold gP;simp
 unfold wa at hI
 by_cases h0:es=[]
 .rw[aEW h0]at hI;refine SU hI ?_;have:L=[]:=by rw[h0]at hlen;exact aFi.1 hlen.symm
  subst this;exact⟨[],Kp.refl _ _,.inl ⟨rfl,by simp[nR,cJ],rfl⟩,uG⟩
 .rw[aET h0]at hI;refine SU hI ?_
  have hs:(oV (jr es)).map I=cJ (nR (L.map (·.1))):=by
   rw[(sN e1).1];unfold oV nR cJ;rw[<-List.map_mergeSort (r:=λa b=>decide (a<=b)) (f:=Int.ofNat) (s:=λa b=>decide (a<=b)) (λa _ b _=>uG)];rw[aHl];rfl
  rw[hs];refine⟨[st.nx],(Kp.refl [] st).new _,.inr (.inr ⟨st.nx,es.length,rfl,aGX.2 h0,?_,rfl,ao _ _⟩),uG⟩;rw[qd,xz,aFK,hlen];omega
def nZ (d s:List (Nat×jU)):List (Nat×jU):=d.filter (λe=>decide (e.1∉s.map (·.1)))++s
def Gl (a b:List (Nat×jU))(n:Nat):dt (a++b) n=(dt a n).or (dt b n):=by
 induction a with
 |nil=>rfl
 |cons p r ih=>simp only[aFS,dt];split;rfl;exact ih
def l6 {l:List (Nat×jU)}:dt l n=none↔n∉l.map (·.1):=by
 induction l with
 |nil=>simp[dt]
 |cons p r ih=>simp only[dt,aFv,aEP,aGk];split;simp_all;rw[ih];simp_all
def MP (d s:List (Nat×jU))(n:Nat):dt (nZ d s) n=(dt s n).or (dt d n):=by
 unfold nZ;rw[Gl]
 have key:dt (d.filter (λe=>decide (e.1∉s.map (·.1)))) n=if n∈s.map (·.1)then none else dt d n:=by
  induction d with
  |nil=>simp[dt]
  |cons p r ih=>
   rw[aGo]
   by_cases h:p.1∈s.map (·.1)
   .rw[aET OY,ih];simp only[dt]
    by_cases hn:n=p.1
    .subst hn;rw[aEW h,aEW h]
    .rw[aET hn]
   .rw[aEW OY];simp only[dt,ih]
    by_cases hn:n=p.1
    .subst hn;rw[aEW rfl,aET h,aEW rfl]
    .rw[aET hn,aET hn]
 rw[key]
 by_cases h:n∈s.map (·.1)
 .rw[aEW h];cases hs:dt s n with
  |none=>exact absurd h (l6.1 hs)
  |some x=>rfl
 .rw[aET h,l6.2 h];cases dt d n<;>rfl
end
end
def bf.lay (D:bf)(first:Nat)(l:List eO):bf:=l.foldl (λD e=>(D.write (Int.ofNat (first+e.1)) e.2).2) D
def bf.GK (D:bf)(first:Nat)(l:List eO)(e:eO):D.lay first (l++[e])=((D.lay first l).write (Int.ofNat (first+e.1)) e.2).2:=by unfold bf.lay;rw[aGS];rfl
structure SY (D:bf)(first:Nat)(l:List eO):Prop where
 calm:Calm (D.lay first l)
 AA:(D.lay first l).AA
 aA:(D.lay first l).aA=D.aA
 waits:(D.lay first l).waits.length=D.waits.length+l.length
 low:∀j,j<first->(D.lay first l).cur j=D.cur j
 other:∀n,n∉l.map (·.1)->(D.lay first l).cur (first+n)=D.cur (first+n)
 at_:(l.map (·.1)).Nodup->∀e∈l,(D.lay first l).cur (first+e.1)=e.2
def aei {D:bf}{first:Nat}(h:Calm D)(hw:D.AA):∀l:List eO,(∀e∈l,first+e.1<D.aA.length/\e.2.length=512)->SY D first l:=by
 intro l
 suffices key:∀r:List eO,(∀e∈r.reverse,first+e.1<D.aA.length/\e.2.length=512)->SY D first r.reverse by
  intro hl;have:=key l.reverse (by rwa [aGG])
  rwa [aGG]at this
 intro r
 induction r with
 |nil=>intro _;exact⟨h,hw,rfl,rfl,λ_ _=>rfl,λ_ _=>rfl,λ_ e he=>by cases he⟩
 |cons e r ih=>
  intro hl;rw[List.reverse_cons]at hl⊢;have hi:=ih λx hx=>hl x (by simp at hx⊢;exact .inl hx);have he:=hl e uG;obtain⟨a1,a2,a3,a4,a5,a6⟩:=hi.calm.write (i:=first+e.1) (s:=e.2) (by rw[hi.aA];exact he.1) he.2 hi.AA;have e1:D.lay first (r.reverse++[e])=((D.lay first r.reverse).write ((first+e.1:Nat):Int) e.2).2:=D.GK first r.reverse e
  refine⟨by rw[e1];exact a2,by rw[e1];exact a4,by rw[e1,a3];exact hi.aA,by rw[e1,a5,hi.waits];simp;omega,λj hj=>?_,λn hn=>?_,λja x hx=>?_⟩
  .rw[e1,a6,aET qE];exact hi.low j hj
  .rw[e1,a6,aET (λhh=>hn (by simp;exact .inr qE))];exact hi.other n λhh=>hn (by simp at hh⊢;exact .inl hh)
  .rw[e1,a6];rw[aFR,aFM]at ja;rcases aEY.1 hx with hx|hx
   .have ij:=ja.2.2 x.1 (aFX hx) e.1 uG;rw[aET qE];exact hi.at_ ja.1 x hx
   .have:x=e:=by simpa using hx
    subst this;rw[aEW rfl]
def dZ (d:List eO)(ks:List Nat):List eO:=ks.map λn=>(n,(dt d n).getD [])
def mL (d:List eO)(ks:List Nat):(dZ d ks).map (·.1)=ks:=by unfold dZ;rw[aHl];exact List.map_id ks
def Gj {d:List eO}{n:Nat}{s:jU}(h:dt d n=some s):(n,s)∈d:=by
 induction d with
 |nil=>cases h
 |cons p r ih=>
  simp only[dt]at h
  split at h
  .rename_i hn;cases h;subst hn;exact aFT
  .exact aFE _ (ih h)
section
variable {st st':St} {p a:Nat} {lg:CV} {M:bZ} {bd bn bi bc:Nat} {F:List Nat} {D:bf}
def SX (p a:Nat)(M:bZ)(bn bi bc:Nat)(F:List Nat)(D:bf)(base count:Nat)(P:Nat->Piece)(st:St)(v:CV)(st':St):Prop:=
 v=I 0/\Kp (p::F) st st'/\∃r oP F' D',cP st' p a (.ptr r 0) {M with dirty:=[]} oP bn bi bc/\dz st' a F' D'/\Calm D'/\D'.waits=[]/\D'.aA.length=D.aA.length/\fQ st' r a (RingM.opened 1 count base P)/\st.nx<=r/\st.nx<=oP/\r≠oP/\(∀b∈F',(b∈F\/st.nx<=b)/\b≠r/\b≠oP)/\
  (∀j,D'.cur j=if j=0 then dD base else if j<M.first then D.cur j else (dt M.dirty (j-M.first)).getD (D.cur j))
def Aa (h:cP st p a lg M bd bn bi bc)(hd:dz st a F D)(hc:Calm D)(hw:D.AA)(hwl:D.waits.length<=1000000)(j0:eH st)(hF:∀b∈F,b∉[p,bd,bn,bi,bc])(Iv:M.dirty.length<=1000000)(BX:∀e∈M.dirty,e.1<M.aH/\e.2.length=512)(Ns:M.first+M.aH=D.aA.length)(EI:M.first=1+D.aA.length/4)(h4:4<=D.aA.length)
 {base:Nat} (hb:base<=1000000000) {P:Nat->Piece} (hP:∀j,j<D.aA.length/4->D.cur (1+j)=(P j).cC/\(P j).ok):
 R 73 [.ptr p 0,I base] st (SX p a M bn bi bc F D base (D.aA.length/4) P st):=by
 refine bP ?_;rw[w73];have hsz:=(show D.aA.length<=65536 from by obtain⟨_,_,_,_,_,_,_,h⟩:=hd;exact h.size);rw[cV];simp only[fB,bF,ah,af,aB,h.main,aq,aER,aEN,aEL,ay];refine Lo.mono ?_;rintro _ ey ⟨rfl,nE,oM,n13⟩;have agS:=h.keep oM uG;refine(Co nE agS.dirty Iv (λn hn=>?_)).mono ?_
 .obtain⟨e,he,rfl⟩:=aFq.1 hn;have:=(BX e he).1;omega
 intro x eT G8;have wJ:=G8.kp;have K14:=oM.trans wJ uG;have VD:=agS.keep wJ uG;have aan:=hd.keep K14 uG;have n14:=K14.nx;have Ny:=hd.lt
 have QQ:Sl eT (p::F) x 1 (cJ (nR (M.dirty.map (·.1)))):=G8.sl _ λb hb=>by
  rcases aEP.1 hb with rfl|hb
  .have:=h.lt b uG;omega
  .have:=Ny b hb;omega
 have azK:(nR (M.dirty.map (·.1))).length=M.dirty.length:=by rw[xz,aFK]
 have TC:=iP (by rw[<-kW];exact h.dirty.nd);have Vo:=yd TC
 have Xv:∀n∈nR (M.dirty.map (·.1)),∃s,dt M.dirty n=some s/\n<M.aH/\s.length=512:=λn hn=>by
  rw[tD]at hn;cases hg:dt M.dirty n with
  |none=>exact absurd hn (l6.1 hg)
  |some s=>have:=BX _ (Gj hg);exact⟨s,rfl,this.1,this.2⟩
 generalize mr:nR (M.dirty.map (·.1))=ks at*;have hlen:=QQ.len ks.length uG qE eT;rw[hlen,af];simp only[aL,aM]
 have Vm:∀i,i<=ks.length->SY D M.first (dZ M.dirty (ks.take i)):=λi hi=>aei hc hw _ λe he=>by
  unfold dZ at he;obtain⟨n,hn,rfl⟩:=aFq.1 he;obtain⟨s,h1,h2,h3⟩:=Xv n (aFz hn);simp only[h1,aGi];exact⟨qE,h3⟩
 refine bN (λfu vs s=>∃i F1,fu+i=ks.length/\vs=[.ptr p 0,I base,x,I ks.length,I i]/\Kp F eT s/\dz s a F1 (D.lay M.first (dZ M.dirty (ks.take i)))/\(∀b∈F1,b∈F\/eT.nx<=b)) ?_ (n:=ks.length) ⟨0,F,rfl,rfl,Kp.refl _ _,aan,ael⟩;rintro fu vs s k ⟨i,F1,hi,rfl,hk,XH,wS⟩ next;simp only[aL,aM];rw[dC,af,ag];have yB:=VD.keep hk λb hb hh=>hF b hh hb;have CR:=yB.main;have rO:=hk.nx;have Vs:=hk.fresh (K14.fresh j0)
 have AJ:∀b∈[p,bd,bn,bi,bc],b∉F1:=λb hb hh=>by
  rcases wS b hh with h1|h1
  .exact hF b h1 hb
  .have:=h.lt b hb;omega
 by_cases wR:i<ks.length
 .rw[aEV wR,aEW rfl];refine((QQ.dW (Y:=F) (by intro q hq;left;simp[hq])).mono hk).idx (i:=i) adp _ ?_;have e9:(cJ ks)[i]'(by simpa using wR)=I ks[i]:=by simp[cJ]
  rw[e9];obtain⟨sec,hg,hnp,lq⟩:=Xv ks[i] (aFj wR);have AL:=IsMap.lookup yB.dirty (.agg (zr 512)) false ks[i] s rfl;rw[aET u7,wc,hg]at AL;simp only[aGc,aGi]at AL;simp only[bF,ah,af,aB,aER,CR,aq,aEN,aEL,ay,AL];have Bs:(aj sec).length=512:=by simpa using lq
  refine lD Bs (bI _) ?_;have k4:=(Kp.refl [] s).page (aj sec);have g4:(St.set (St.new s (.cells (zr 512) 173 false)) s.nx (.cells (aj sec) 173 false)).m.g s.nx=some (.cells (aj sec) 173 false):=ar _ _ _;have n4:(St.set (St.new s (.cells (zr 512) 173 false)) s.nx (.cells (aj sec) 173 false)).nx=s.nx+1:=rfl;generalize St.set (St.new s (.cells (zr 512) 173 false)) s.nx (.cells (aj sec) 173 false)=s4 at*;have TG:=yB.keep k4 uG;have hd4:=XH.keep k4 uG;have hm4:=TG.main;have Bq:bY 512 1 (.ptr s.nx 0) none none s4=.ok (.slice s.nx 0 512 512 0) s4:=rfl;have e1:ai .add none false (I M.first) (I ks[i]) s4=.ok (I ((M.first+ks[i]:Nat):Int)) s4:=Oh
  have ahd:=XH.lt;have ZA:Sl s4 F1 (.slice s.nx 0 512 512 0) 1 (aj sec):=.inr ⟨s.nx,0,512,512,0,rfl,by simp[lq],⟨aEQ _,.inl rfl⟩,.inr ⟨λhh=>by have:=ahd _ hh;omega,qE,_,_,_,g4,qE,O4⟩⟩;have hL:=Vm i qE;simp only[bG,hm4,aq,aEN,aEL,ay,e1,af,Bq];have aAp:(dZ M.dirty (ks.take i)).length<=1000000:=by unfold dZ;simp;omega
  refine(vS hd4 (i:=((M.first+ks[i]:Nat):Int)) (k4.fresh Vs) (by rw[hL.waits];omega) ZA lq).mono ?_;rintro _ s5 ⟨rfl,k5,F2,hd5,xq⟩;obtain⟨w1,w2,w3,w4,w5,w6⟩:=hL.calm.write (i:=M.first+ks[i]) (s:=sec) (by rw[hL.aA];omega) lq hL.AA;rw[w1];have e2:ai .neq (some .int) true (I 0) (.int .i64 0) s5=.ok (.bool false) s5:=rfl;refine⟨⟨aer,aer,aer⟩,aer,?_⟩;simp only[e2,af,ag,aEM,aFa,gH i qE]
  have etk:dZ M.dirty (ks.take (i+1))=dZ M.dirty (ks.take i)++[(ks[i],sec)]:=by
   rw[aFe wR];unfold dZ;rw[aFR];simp[hg]
  refine next (fu-1) _ _ qE ⟨i+1,F2,qE,rfl,?_,?_,λb hb=>?_⟩
  .exact(hk.trans k4 uG).trans k5 λq hq=>wS q hq
  .rw[etk,bf.GK];exact hd5
  .rcases xq b hb with h1|h1
   .exact wS b h1
   .right;omega
 .rw[aEO wR,aET u7];have BO:ks.take i=ks:=aEX qE;rw[BO]at XH;have hL:=Vm ks.length (aEQ _);rw[List.take_length]at hL;have hel:(dZ M.dirty ks).length=ks.length:=by unfold dZ;simp
  generalize hDL:D.lay M.first (dZ M.dirty ks)=D1 at*;simp only[bF,ah,af,aB,aER,CR,aq,aEL,ay];refine(wT XH (by rw[<-hDL,hL.waits];omega)).mono ?_;rintro _ s6 ⟨rfl,k6,F2,AP,xq⟩;obtain⟨f1,f2,f3,f4,f5⟩:=hL.calm.flush hL.AA;rw[hDL]at f1 f2 f3 f4 f5;have Z5:=hL.aA;rw[hDL]at Z5;have e2:∀s,ai .neq (some .int) true (I 0) (.int .i64 0) s=.ok (.bool false) s:=λs=>rfl;have hP6:=yB.keep k6 AJ;have hm6:=hP6.main;have Vt:=k6.fresh Vs;have n6:=k6.nx
  have aaG:∀b∈F2,b∈F\/eT.nx<=b:=λb hb=>by
   rcases xq b hb with h1|h1
   .exact wS b h1
   .right;omega
  have afm:∀b∈[p,bd,bn,bi,bc],b∉F2:=λb hb hh=>by
   rcases aaG b hh with h1|h1
   .exact hF b h1 hb
   .have:=h.lt b hb;omega
  generalize hD2:D1.flush.2=D2 at*;rw[f1];simp only[e2,af,ag,aEM,aFa,hm6,aq,aEL,ay];refine(LO Vt AP (by rw[f4];simp) (base:=base) qE).mono ?_;rintro _ s7 ⟨rfl,k7,F3,EL,EN⟩;obtain⟨g1,g2,g3,g4,g5⟩:=f2.head (by unfold bf.AA;rw[f4];simp) (by rw[f3,Z5];omega) base;have LQ:=hP6.keep k7 afm;have hm7:=LQ.main;have apr:=k7.fresh Vt;have n7:=k7.nx
  have RR:∀b∈F3,b∈F\/eT.nx<=b:=λb hb=>by
   rcases EN b hb with h1|h1
   .exact aaG b h1
   .right;omega
  generalize hD3:(D2.head base).2=D3 at*;rw[g1];have Np:D3.aA.length=D.aA.length:=by rw[g3,f3,Z5]
  simp only[e2,af,ag,aEM,aFa,bG,hm7,aq,aEL,ay];refine(pU EL).same ?_;rw[Np]
  have ux:∀j,D3.cur j=if j=0 then dD base else if j<M.first then D.cur j else (dt M.dirty (j-M.first)).getD (D.cur j):=by
   intro j;rw[g5]
   by_cases hj:j=0
   .rw[aEW hj,aEW hj]
   .rw[aET hj,aET hj,f5]
    by_cases hj2:j<M.first
    .rw[aEW hj2];have:=hL.low j hj2
     rwa [hDL]at this
    .rw[aET hj2];obtain⟨n,rfl⟩:∃n,j=M.first+n:=⟨j-M.first,qE⟩;rw[aGQ];cases hg:dt M.dirty n with
     |none=>
      have:=hL.other n (by rw[mL,<-mr,tD];exact l6.1 hg)
      rwa [hDL]at this
     |some s'=>
      have jB:(n,s')∈dZ M.dirty ks:=by
       unfold dZ;refine aFq.2 ⟨n,?_,by rw[hg];rfl⟩;rw[<-mr,tD];exact aFq.2 ⟨_,Gj hg,rfl⟩
      have:=hL.at_ (by rw[mL];exact Vo) _ jB;rw[hDL]at this;exact this
  have hRd:tA D3 ⟨1,D.aA.length/4,base,base,base⟩ P:=⟨acu,abY,qE,acA,λj hj=>by
   have hj:j<D.aA.length/4:=hj;show D3.cur (1+j)=_/\_;rw[ux,aET qE,aEW qE];exact hP j hj⟩
  refine(zU apr EL g2.dead hRd hb).mono ?_;rintro _ s9 ⟨r,xo,Fo,Gg,rfl,k9,lR,LC,hFo,hr⟩;have n9:=k9.nx;have hP9:=LQ.keep k9 uG;have hd9:=EL.keep k9 uG;have Xs:=hP9.main;rw[aE,af,aN,aE,af,aN,aN,aE,af];refine⟨⟨⟨by rw[hm7];exact rfl,aer⟩,aer,aer⟩,aer,?_⟩;rw[e2,af,ag,aET u7,iO,aS];have kA:Kp [] s9 (St.new s9 (.map [] 0)):=(Kp.refl [] s9).new _;have mA:=dy.new s9;have nA:(St.new s9 (.map [] 0)).nx=s9.nx+1:=rfl;generalize St.new s9 (.map [] 0)=sA at*;have hPA:=hP9.keep kA uG;have hdA:=hd9.keep kA uG;have hmA:=hPA.main
  have GU:∀{s:St} {l:List CV} {x:CV} {o:Nat} {K:St->Prop},s.m.g p=some (.cells l 158 false)->x.cN=[x]->cE x=true->o<l.length->K (St.set s p (.cells (bD l o [x]) 158 false))->oK 1 o (.ptr p 0) x s K:=by
   intro s l x o K hg h1 h2 h3 hK;simp only[oK,bF,ah,af,aJ,hg,aW,h1,aER];exact⟨⟨rfl,by simp[h2],h3⟩,hK⟩
  refine GU hmA rfl rfl (by decide:(1:Nat)<16) ?_;refine GU (ar _ _ _) rfl rfl (by exact(by decide:(4:Nat)<16)) ?_;rw[set_set];have kP:bD (bD [.ptr a 0,lg,I M.first,I M.aH,.map bd,.map bn,I M.kept.root,I M.kept.used,I M.kept.head,I M.kept.free,I M.m.root,I M.m.used,I M.m.head,I M.m.free,.map bi,.map bc] 1 [.ptr r 0]) 4 [.map s9.nx]=[.ptr a 0,.ptr r 0,I M.first,I M.aH,.map s9.nx,.map bn,I M.kept.root,I M.kept.used,I M.kept.head,I M.kept.free,I M.m.root,I M.m.used,I M.m.head,I M.m.free,.map bi,.map bc]:=rfl;rw[kP];have anU:=hPA.lt p uG;have rX:=h.nd;simp only[aFd,aEP,aFy,aGt,aGk]at rX;have kB:Kp [p] sA (St.set sA p (.cells [.ptr a 0,.ptr r 0,I M.first,I M.aH,.map s9.nx,.map bn,I M.kept.root,I M.kept.used,I M.kept.head,I M.kept.free,I M.m.root,I M.m.used,I M.m.head,I M.m.free,.map bi,.map bc] 158 false)):=(Kp.refl _ sA).set _ (.inl uG) anU;have XU:=EL.lt
  have aoa:∀b∈F3,b∉[p]:=λb hb hh=>by
   have hh:b=p:=by simpa using hh
   subst hh;rcases RR b hb with h1|h1
   .exact hF b h1 uG
   .have:=h.lt b uG;omega
  have LD:=h.lt;have Tx:=LD p uG;have Nj:=LD bn uG;have hp3:=LD bi uG;have hp4:=LD bc uG;have QU:=lR.1;refine⟨rfl,?_,r,s9.nx,F3,D3,⟨ar _ _ _,.inl (mA.mono (al _ _ _ _ qE)),hPA.now.mono (al _ _ _ _ (aFL rX.1.2.1)),hPA.idle.mono (al _ _ _ _ (aFL rX.1.2.2.1)),hPA.count.mono (al _ _ _ _ (aFL rX.1.2.2.2)),?_,?_,⟨rfl,rfl,rfl⟩⟩,hdA.keep kB aoa,g2,g4,Np,?_,qE,qE,qE,λb hb=>⟨(RR b hb).imp id λh=>qE,?_,?_⟩,ux⟩
  .have q1:Kp (p::F) st s:=(K14.mono uG).trans hk λq hq=>.inl TN;have q2:=q1.trans k6 λq hq=>(wS q hq).imp (λh=>Pb) λh=>by omega
   have q3:=q2.trans k7 λq hq=>(aaG q hq).imp (λh=>Pb) λh=>qE
   exact((q3.trans k9 uG).trans kA uG).trans kB λq hq=>.inl (by simp at hq;simp[hq])
  .simp only[aFd,aEP,aFy,aGt,aGk];exact⟨⟨qE,rX.1.2.1,rX.1.2.2.1,rX.1.2.2.2⟩,⟨qE,qE,qE⟩,rX.2.2⟩
  .intro b hb;simp at hb;show b<sA.nx;omega
  .exact(lR.keep kA uG).keep kB vR
  .have:=XU b hb;omega
  .have:=XU b hb;omega
end
section
variable {dirty:List eO}{D D':bf}{P:Nat->Piece}{base last:Nat}{Ls:List (List eO)}
def sO (first aH:Nat)(dirty:List eO)(kept:j9)(fr:List Nat):bZ:=⟨first,aH,dirty,[],kept,kept,fr,[]⟩
def mg {first aH:Nat}{kept:j9}{fr:List Nat}(D:bf)(n:Nat):(sO first aH dirty kept fr).get D n=(dt dirty n).getD (D.cur (first+n)):=by
 unfold sO bZ.get;simp only[dt];cases dt dirty n<;>rfl
def uc.congr {M M':bZ}{G:GM}(h:uc M D G)(hg:∀n,n<M.aH->M'.get D' n=M.get D n)(h1:M'.aH=M.aH)(h2:M'.m=M.m)(h3:M'.idle=M.idle)(h4:M'.now=M.now)(h5:M'.count=M.count)(h6:M'.first=M.first)(h7:D'.aA.length=D.aA.length):uc M' D' G:=by
 have hm:=h.ok.jL;refine⟨h1.trans h.aH,by rw[h2];exact h.used,by rw[h2];exact h.root,by rw[h2];exact h.head,by rw[h2];exact h.free,by rw[h3];exact h.idle,by rw[h3];exact h.yu,h.ok,by rw[h6,h1,h7];exact h.fits,λn hn=>?_,λn hn=>?_,?_,by rw[h4,h5];exact h.count,by rw[h5];exact h.rq,by rw[h5];exact h.sJ⟩
 .rw[hg n (by rw[h.aH];omega)];exact h.len n hn
 .rw[hg n (by rw[h.aH];have:=hn.2.1;omega)];exact h.cont n hn
 .have key:∀l:List Nat,(∀n∈l,n<M.aH)->OG M D l->OG M' D' l:=by
   intro l
   induction l with
   |nil=>intro _ _;trivial
   |cons n r ih=>intro h1 h2;exact⟨(hg n (h1 n uG)).trans h2.1,ih (λm hm=>h1 m (by simp[hm])) h2.2⟩
  exact key _ (λn hn=>by rw[h.aH];have:=(h.ok.fr n hn).2;omega) h.chain
structure kT (D:bf)(Gk:GM)(base last:Nat)(P:Nat->Piece)(Ls:List (List eO))(kept:j9):Prop where
 calm:Calm D
 waits:D.waits=[]
 least:64<=D.aA.length
 jL:D.aA.length<=65536
 head:D.cur 0=dD base
 qL:∀j,j<D.aA.length/4->D.cur (1+j)=(P j).cC/\(P j).ok
 laid:kG P (D.aA.length/4) base (Ls.map gf) last
 le:∀j,j<D.aA.length/4->(P j).n<=last
 room:last<=base+D.aA.length/4
 xQ:∀l∈Ls,∀e∈l,e.1<D.aA.length-1-D.aA.length/4/\e.2.length=512
 small:∀l∈Ls,(gf l).length<=1000000
 rep:uc (sO (1+D.aA.length/4) (D.aA.length-1-D.aA.length/4) (eo [] Ls) kept Gk.fr) D Gk
 zero:(sO (1+D.aA.length/4) (D.aA.length-1-D.aA.length/4) (eo [] Ls) kept Gk.fr).get D 0=bR kept
 root:kept.root<2147483648
def kG.count {count:Nat}:∀{rs:List (List UInt8)} {s e:Nat},kG P count s rs e->s+rs.length<=e:=by
 intro rs
 induction rs with
 |nil=>intro s e h;have h:e=s:=h;simp[h]
 |cons r rs ih=>intro s e h;have:=ih h.2;have:=oY r.length;simp;omega
def Ql {m:j9}(h1:m.root<4294967296)(h2:m.used<4294967296)(h3:m.head<4294967296)(h4:m.free<4294967296):UI (bR m)=m:=by
 have e:bR m=be 4 m.root++(be 4 m.used++(be 4 m.head++(be 4 m.free++List.replicate 496 0))):=by
  unfold bR sL lQ;generalize List.replicate 496 (0:UInt8)=z;simp only[aFv,List.map_nil,aGq,List.flatten_nil,aFN,aFx]
 have t:∀(n:Nat) (r:List UInt8),(be 4 n++r).take 4=be 4 n:=λn r=>aGj (il 4 n);have d:∀(n:Nat) (r:List UInt8),(be 4 n++r).drop 4=r:=λn r=>aHx (il 4 n);unfold UI;rw[show 8=4+4 from rfl,show 12=4+(4+4)from rfl];simp only[<-aHn];rw[e,t,d,t,d,t,d,t,vL 4 _ qE,vL 4 _ qE,vL 4 _ qE,vL 4 _ qE]
def kT.WG {Gk:GM}{kept:j9}(h:kT D Gk base last P Ls kept):UI (bR kept)=kept:=by
 have h1:=h.rep.ok.jL;have h2:=h.rep.ok.size;have h3:=h.rep.used;have h4:=h.rep.head;have h5:=h.rep.free;have j0:=lC Gk.used Gk.fr h.rep.ok.nd λx hx=>(h.rep.ok.fr x hx).2
 have h6:Gk.fr.headD 0<=Gk.used:=by
  cases hf:Gk.fr with
  |nil=>simp
  |cons n r=>have:=(h.rep.ok.fr n (by rw[hf];simp)).2;simp;omega
 have h3:kept.used=Gk.used:=h3;have h4:kept.head=Gk.fr.headD 0:=h4;have h5:kept.free=Gk.fr.length:=h5;exact Ql (by have:=h.root;omega) qE qE qE
def kT.settled {Gk:GM}{kept:j9}(h:kT D Gk base last P Ls kept)(hd:∀n,dt dirty n=dt (eo [] Ls) n)(hc:Calm D')(hw:D'.waits=[])(hl:D'.aA.length=D.aA.length)
 (ux:∀j,D'.cur j=if j=0 then dD last else if j<1+D.aA.length/4 then D.cur j else (dt dirty (j-(1+D.aA.length/4))).getD (D.cur j)):kT D' Gk last last P [] kept:=by
 have hg:∀n,(sO (1+D.aA.length/4) (D.aA.length-1-D.aA.length/4) [] kept Gk.fr).get D' n=(sO (1+D.aA.length/4) (D.aA.length-1-D.aA.length/4) (eo [] Ls) kept Gk.fr).get D n:=λn=>by
  rw[mg,mg,ux,aET qE,aET qE,aGQ,hd];rfl
 refine⟨hc,hw,by rw[hl];exact h.least,by rw[hl];exact h.jL,by rw[ux,aEW rfl],λj hj=>?_,rfl,by rw[hl];exact h.le,qE,uG,uG,?_,?_,h.root⟩
 .rw[hl]at hj;rw[ux,aET qE,aEW qE];exact h.qL j hj
 .rw[hl];exact h.rep.congr (λn _=>hg n) rfl rfl rfl rfl rfl rfl hl
 .rw[hl];exact(hg 0).trans h.zero
def kT.opened {Gk:GM}{kept:j9}(h:kT D Gk base last P Ls kept):mZ P (D.aA.length/4) (D.aA.length/4) base [] [] base=(Ls.map gf,last)/\RingM.opened 1 (D.aA.length/4) base P=⟨1,D.aA.length/4,base,last,last⟩:=by
 have h0:0<D.aA.length/4:=by have:=h.least;omega
 have hn:(P ((last+1)%(D.aA.length/4))).n≠last+1:=by
  have:=h.le ((last+1)%(D.aA.length/4)) (Nat.mod_lt _ h0);omega
 have e:=PV h.laid hn (D.aA.length/4) [] h.room;rw[aFt]at e;refine⟨e,?_⟩;unfold RingM.opened;rw[e,Uf h.laid h0 h.le]
structure iX (π:PI)(st:St)(Gk:GM)(T:Nat):Prop where
 ex:∃base last P Ls r,kT π.D Gk base last P Ls π.kept/\last<=T/\π.lg=.ptr r 0/\fQ st r π.a ⟨1,π.D.aA.length/4,base,last,last⟩/\r∉π.all/\∀n,dt π.dirty n=dt (eo [] Ls) n
 first:π.first=1+π.D.aA.length/4
 xQ:∀e∈π.dirty,e.1<π.D.aA.length-1-π.D.aA.length/4/\e.2.length=512
 nd:(π.dirty.map (·.1)).Nodup
section
variable {π:PI} {st st':St} {Gk:GM} {T:Nat}
def iX.keep {X:List Nat}(h:iX π st Gk T)(hk:Kp X st st')(hx:∀r,π.lg=.ptr r 0->r∉X):iX π st' Gk T:=by
 obtain⟨base,last,P,Ls,r,a,b,c,d,e,f⟩:=h.ex;exact⟨⟨base,last,P,Ls,r,a,b,c,d.keep hk (hx r c),e,f⟩,h.first,h.xQ,h.nd⟩
end
end
def SN (l:List UInt8)(i:Nat):oC (l.take i)<=oC l:=by
 have key:∀(b:List UInt8) (acc:Nat),acc<=b.foldl (λa b=>a*256+b.toNat) acc:=by
  intro b
  induction b with
  |nil=>intro acc;exact aEQ _
  |cons x b ih=>intro acc;rw[List.foldl_cons];exact aGb qE (ih _)
 have e:oC l=(l.drop i).foldl (λa b=>a*256+b.toNat) (oC (l.take i)):=by
  unfold oC;rw[<-aGS,aFD]
 rw[e];exact key _ _
def Gf {d:List eO}{n:Nat}{s:jU}{e:eO}(h:e∈ig d n s):e∈d\/e=(n,s):=by
 induction d with
 |nil=>right;simpa[ig]using h
 |cons p r ih=>
  simp only[ig]at h
  split at h
  .rcases aEP.1 h with h|h
   .exact .inr h
   .exact .inl (aFE _ h)
  .rcases aEP.1 h with h|h
   .exact .inl (by rw[h];exact aFT)
   .exact(ih h).imp (aFE _) id
def MO {Q:eO->Prop}:∀{l d:List eO},(∀e∈l,Q e)->(∀e∈d,Q e)->∀e∈oL d l,Q e:=by
 intro l
 induction l with
 |nil=>intro d _ h;exact h
 |cons x l ih=>
  intro d h1 h2;show∀e∈oL (ig d x.1 x.2) l,Q e;refine ih (λe he=>h1 e (by simp[he])) λe he=>?_;rcases Gf he with h|h
  .exact h2 e h
  .rw[h];exact h1 x uG
def DT {Q:eO->Prop}:∀{Ls:List (List eO)} {d:List eO},(∀l∈Ls,∀e∈l,Q e)->(∀e∈d,Q e)->∀e∈eo d Ls,Q e:=by
 intro Ls
 induction Ls with
 |nil=>intro d _ h;exact h
 |cons l Ls ih=>intro d h1 h2;exact ih (λl' Is=>h1 l' (by simp[Is])) (MO (h1 l uG) h2)
def Mj (a:Nat)(F:List Nat)(D:bf)(Gk:GM)(T:Nat)(st:St)(v:CV)(st':St):Prop:=
 ∃π:PI,v=.tuple [.ptr π.p 0,I 0]/\π.a=a/\Pg π st' Gk/\iX π st' Gk T/\Kp F st st'/\(∀b∈π.all,b∈F\/st.nx<=b)/\st.nx<=π.p/\Calm π.D/\π.D.aA.length=D.aA.length/\∃r,π.lg=.ptr r 0/\st.nx<=r
section
variable {st st':St} {a:Nat} {F:List Nat} {D:bf}
def UB (hd:dz st a F D)(j0:eH st){Gk:GM}{base last:Nat}{P:Nat->Piece}{Ls:List (List eO)}{kept:j9}(h:kT D Gk base last P Ls kept)(hb:last<=1000000000):R 23 [.ptr a 0] st (Mj a F D Gk last st):=by
 refine bP ?_;rw[w23];have azH:=h.least;have aoO:=h.jL;have uy:=h.laid.le.1;rw[cD,af,ag,aET u7];have BS:=zg hd 0
 have ZL:D.read 0=(0,dD base):=by
  have:=h.calm.read (i:=0) qE;rw[h.head]at this;exact this
 refine BS.mono ?_;intro v s1 hv;rw[ZL,aEW rfl]at hv;obtain⟨k1,_,b,rfl,gb,Ix,CX⟩:=hv;rw[aE,af,aN,aE,af];have e2:∀s,ai .neq (some .int) true (I 0) (.int .i64 0) s=.ok (.bool false) s:=λs=>rfl;rw[e2,af,ag,aET u7];have TD:=hd.keep k1 uG;refine(vu TD).same ?_;have hlt:ai .lss none true (I D.aA.length) (.int .i64 64) s1=.ok (.bool false) s1:=Yl
 have hhl:=rf base;have sl1:Sl s1 [] (.slice b 0 512 512 1) 1 (aj (dD base)):=.inr ⟨b,0,512,512,1,rfl,by simp[hhl],⟨aEQ _,.inr rfl⟩,.inr ⟨uG,CX,_,_,_,gb,by simp[hhl],by rw[aFr,aEX (by simp[hhl])]⟩⟩;have hbc:(aj (dD base)).length=512*1:=by simp[hhl]
 obtain⟨v8,q1,q2⟩:=sl1.hi qE hbc (h:=8) qE s1;have Sj:dD base=[98,117,116,116,101,114,121,49]++(be 8 base++List.replicate 496 0):=by unfold dD;rw[aFx]
 have etk:(aj (dD base)).take (8*1)=aj [98,117,116,116,101,114,121,49]:=by
  rw[Sj,bL,aGj uG]
 rw[etk]at q2;have q3:=q2.str;have q1':aQ 1 (.slice b 0 512 512 1) none (some (.int .i64 8)) s1=.ok v8 s1:=q1
 have e8:(dD base)[8]?=some (UInt8.ofNat (base/256^7%256)):=by
  rw[Sj,aGe uG,zt];rfl
 have e80:UInt8.ofNat (base/256^7%256)=0:=by
  have:base/256^7=0:=Nat.div_eq_of_lt qE;rw[this];rfl
 have Xx:cc 1 (.slice b 0 512 512 1) (.int .i64 8) s1=.ok (.ptr b 8) s1:=by
  have:=fO (size:=1) (off:=0) (cap:=512) (grow:=1) (i:=8) (len:=512) qE (.inr qE) s1 (b:=b);exact this
 have sU:(aj (dD base))[8]?=some (.int .u8 0):=by
  unfold aj;rw[aFA,e8,e80];rfl
 have Br:ai .gtr none true (.int .u8 0) (.int .u8 127) s1=.ok (.bool false) s1:=rfl;rw[hlt,af];simp only[aG,aEM,aFa,aFf,bh,af,q1',q3,eA,nX,aFZ,aFh,aF,AD,Xx,aB,gb,aq,sU,ay,Br,ag];refine(K1 TD qE).mono ?_;rintro _ s3 ⟨k3,p,bd,bn,bi,bc,rfl,RK,agc⟩;have hd3:=TD.keep k3 uG;have n1:=k1.nx;have n3:=k3.nx;rw[bG];refine(pU hd3).same ?_;have sl3:=sl1.mono k3;obtain⟨mP,r1,r2⟩:=sl3.both qE hbc (l:=8) (h:=16) qE qE s3
 have arO:((aj (dD base)).drop (8*1)).take ((16-8)*1)=aj (be 8 base):=by
  rw[Sj,bL,aHx uG,bL,aGj (by simp[il])]
 rw[arO]at r2;have r1':aQ 1 (.slice b 0 512 512 1) (some (.int .i64 8)) (some (.int .i64 16)) s3=.ok mP s3:=r1;rw[r1',af];have hbe:=vL 8 base qE;refine(tJ r2 (by rw[il];omega) (λi=>by have:=SN (be 8 base) i;omega)).same ?_;rw[hbe];have agf:=k3.fresh (k1.fresh j0);have hRd:tA D ⟨1,D.aA.length/4,base,base,base⟩ P:=⟨acu,abY,aoO,acA,λj hj=>h.qL j hj⟩;refine(zU agf hd3 h.calm.dead hRd qE).mono ?_;rintro _ s6 ⟨r,xo,Fo,Gg,rfl,k6,lR,LC,hFo,hr⟩;obtain⟨o1,o2⟩:=h.opened;rw[o1]at LC;rw[o2]at lR;have n6:=k6.nx;have hP6:=RK.keep k6 uG;have AP:=hd3.keep k6 uG;refine⟨aer,aer,?_⟩;have e01:ai .eql (some .int) true (I 0) (.int .i64 1) s6=.ok (.bool false) s6:=rfl;have e00:ai .eql (some .int) true (I 0) (.int .i64 0) s6=.ok (.bool true) s6:=rfl;have e02:ai .neq (some .int) true (I 0) (.int .i64 0) s6=.ok (.bool false) s6:=rfl;rw[e01,af];simp only[aG,aEM,aFa,aFf,bh,af,e00,aFm,eR];have agA:=RK.lt;have agE:=agA bd uG;have agu:=h.laid.count;rw[aFK]at agu;have uP:=h.room;refine(MK (M:=eB D.aA.length) (Ls:=Ls) hP6 LC (λb hb e=>by have:=hFo b (.inl hb);omega) (λb hb e=>by have:=hFo b (.inr hb);omega) (λl hl e he=>h.xQ l hl e he) h.small qE (by show D.aA.length-1-D.aA.length/4<=_;omega)).mono ?_;rintro _ s7 ⟨rfl,k7,LQ⟩;have aam:eo (eB D.aA.length).dirty Ls=eo [] Ls:=rfl;rw[aam]at LQ;have n7:=k7.nx;have wS:=hd.lt
 have EL:=AP.keep k7 λb hb hh=>by
  have:=wS b hb;have:=agc bd uG;simp at hh;omega
 have ZJ:=lR.keep k7 vR;have abb:∀s,ai .neq (some .int) true (I 0) (.int .i64 0) s=.ok (.bool false) s:=λs=>rfl;simp only[cU,aFh,af,aF,aFm,aEM,aFa,ag,abb];have hm7:=LQ.main
 have GU:∀{s:St} {l:List CV} {x:CV} {o:Nat} {K:St->Prop},s.m.g p=some (.cells l 158 false)->x.cN=[x]->cE x=true->o<l.length->K (St.set s p (.cells (bD l o [x]) 158 false))->oK 1 o (.ptr p 0) x s K:=by
  intro s l x o K hg h1 h2 h3 hK;simp only[oK,bF,ah,af,aJ,hg,aW,h1,aER];exact⟨⟨rfl,by simp[h2],h3⟩,hK⟩
 refine GU hm7 rfl rfl (by decide:(1:Nat)<16) ?_;have rX:=LQ.nd;simp only[aFd,aEP,aFy,aGt,aGk]at rX;have JR:=LQ.lt p uG
 have hP8:cP (St.set s7 p (.cells (bD [.ptr a 0,.bA,I (1+D.aA.length/4:Nat),I (D.aA.length-1-D.aA.length/4:Nat),.map bd,.map bn,I gp.root,I gp.used,I gp.head,I gp.free,I gp.root,I gp.used,I gp.head,I gp.free,.map bi,.map bc] 1 [.ptr r 0]) 158 false)) p a (.ptr r 0) {eB D.aA.length with dirty:=eo [] Ls} bd bn bi bc:=
  ⟨ar _ _ _,LQ.dirty.mono (al _ _ _ _ (aFL rX.1.1)),LQ.now.mono (al _ _ _ _ (aFL rX.1.2.1)),LQ.idle.mono (al _ _ _ _ (aFL rX.1.2.2.1)),LQ.count.mono (al _ _ _ _ (aFL rX.1.2.2.2)),LQ.nd,LQ.lt,⟨rfl,rfl,rfl⟩⟩
 have k8:Kp [p] s7 (St.set s7 p (.cells (bD [.ptr a 0,.bA,I (1+D.aA.length/4:Nat),I (D.aA.length-1-D.aA.length/4:Nat),.map bd,.map bn,I gp.root,I gp.used,I gp.head,I gp.free,I gp.root,I gp.used,I gp.head,I gp.free,.map bi,.map bc] 1 [.ptr r 0]) 158 false)):=(Kp.refl _ s7).set _ (.inl uG) JR;have n8:(St.set s7 p (.cells (bD [.ptr a 0,.bA,I (1+D.aA.length/4:Nat),I (D.aA.length-1-D.aA.length/4:Nat),.map bd,.map bn,I gp.root,I gp.used,I gp.head,I gp.free,I gp.root,I gp.used,I gp.head,I gp.free,.map bi,.map bc] 1 [.ptr r 0]) 158 false)).nx=s7.nx:=rfl;generalize hS8:St.set s7 p (.cells (bD [.ptr a 0,.bA,I (1+D.aA.length/4:Nat),I (D.aA.length-1-D.aA.length/4:Nat),.map bd,.map bn,I gp.root,I gp.used,I gp.head,I gp.free,I gp.root,I gp.used,I gp.head,I gp.free,.map bi,.map bc] 1 [.ptr r 0]) 158 false)=s8 at*;rw[show St.set s7 p (.cells (bD [.ptr a 0,.bA,I (eB D.aA.length).first,I (eB D.aA.length).aH,.map bd,.map bn,I (eB D.aA.length).kept.root,I (eB D.aA.length).kept.used,I (eB D.aA.length).kept.head,I (eB D.aA.length).kept.free,I (eB D.aA.length).m.root,I (eB D.aA.length).m.used,I (eB D.aA.length).m.head,I (eB D.aA.length).m.free,.map bi,.map bc] 1 [.ptr r 0]) 158 false)=s8 from hS8];have oN:=agc;have anV:=oN p uG;have auz:=oN bd uG;have auw:=oN bn uG;have auy:=oN bi uG;have auA:=oN bc uG;have Iw:=EL.keep k8 λb hb hh=>by have:=wS b hb;simp at hh;omega
 have AJ:=agA p uG;have ZI:=ZJ.keep k8 vR;refine(Pm ZI).same ?_;have aaf:=k8.fresh (k7.fresh (k6.fresh agf));have TC:((eo [] Ls).map (·.1)).Nodup:=iP (by rw[<-kW];exact LQ.dirty.nd);have LN:=DT h.xQ (d:=[]) uG
 have Iv:(eo [] Ls).length<=65536:=by
  have:=lC 65536 ((eo [] Ls).map (·.1)) TC λx hx=>by
   obtain⟨e,he,rfl⟩:=aFq.1 hx;have:=(LN e he).1;omega
  rwa [aFK]at this
 have hFd:∀b∈F,b∉[p,bd,bn,bi,bc]:=λb hb hh=>by
  have:=wS b hb;have:=oN b hh;omega
 refine(Aa (M:={eB D.aA.length with dirty:=eo [] Ls}) hP8 Iw h.calm (by unfold bf.AA;rw[h.waits];simp) (by rw[h.waits];simp) aaf hFd (by show(eo [] Ls).length<=_;omega) (λe he=>LN e he) (by show 1+D.aA.length/4+(D.aA.length-1-D.aA.length/4)=_;omega) rfl qE hb h.qL).mono ?_;rintro _ s10 ⟨rfl,qh,r2,bd2,F2,D2,yW,Vz,Nu,Lv,Ir,LB,Fe,Nv,ij,xq,ux⟩;have Ra:=h.settled (dirty:=eo [] Ls) (λn=>rfl) Nu Lv Ir ux;rw[abb,af,ag,aET u7];have hz:=Ra.zero;have gL:=Ra.rep;rw[Ir]at hz gL;have Xr:=gL.ok.jL;have azn:D.aA.length-1-D.aA.length/4=Gk.aH:=gL.aH;have On:=qh.nx
 have aaF:∀b∈F2,b≠p:=λb hb e=>by
  rcases(xq b hb).1 with h1|h1
  .have:=wS b h1;omega
  .omega
 refine(HY (m':=kept) (frs:=Gk.fr) yW Vz Nu.dead aaF hz Ra.WG (by show 1+D.aA.length/4+(D.aA.length-1-D.aA.length/4)<=_;omega) (by show 0<D.aA.length-1-D.aA.length/4;omega) gL.head (λn hn=>⟨(gL.ok.fr n hn).1,by show n<D.aA.length-1-D.aA.length/4;have:=(gL.ok.fr n hn).2;omega⟩) gL.ok.nd (gL.chain.congr λn _=>rfl)).mono ?_;rintro _ dq ⟨rfl,qx,OC,TJ,TK,yV,jg⟩;have h11:=yV.lt;have LA:=LB.keep qx vR;have ahc:=Vz.lt;have atM:=LB.1;have aqj:=yW.lt bd2 uG;have aao:=Vz.keep qx λb hb hh=>aaF b hb (by simpa using hh);have BU:=jg OC uG;have Xq:=jg TJ uG;have hn3:=jg TK uG;rw[abb,af,ag,aET u7];refine⟨⟨p,a,.ptr r2 0,bd2,OC,TJ,TK,F2,D2,[],kept,1+D.aA.length/4⟩,rfl,rfl,⟨_,yV,gL,aao,Nu.dead,λb hb hh=>?_,rfl,rfl,rfl⟩,⟨⟨last,last,P,[],r2,Ra,aEQ _,rfl,?_,?_,λn=>rfl⟩,by show 1+D.aA.length/4=1+D2.aA.length/4;rw[Ir],uG,uG⟩,?_,?_,by show st.nx<=p;omega,Nu,Ir,r2,rfl,qE⟩
 .have h1:=ahc b hb;have h2:=xq b hb;have h3:=aaF b hb;simp at hh;rcases hh with hh|hh|hh|hh|hh
  .exact h3 hh
  .exact h2.2.2 hh
  .omega
  .omega
  .omega
 .have:=(Ra.opened).2;rw[Ir]at this;rw[this]at LA;show fQ dq r2 a ⟨1,D2.aA.length/4,last,last,last⟩;rw[Ir];exact LA
 .unfold PI.all;simp only[aEP,aGk];exact⟨qE,ij,qE,qE,qE,λhh=>(xq r2 hh).2.1 rfl⟩
 .have q0:Kp F st s6:=((k1.trans k3 uG).trans k6 uG).mono uG;have q1:=q0.trans k7 (by intro q hq;right;simp at hq;omega);have q2:=q1.trans k8 (by intro q hq;right;simp at hq;omega);have q3:=q2.trans qh (by intro q hq;rcases aEP.1 hq with rfl|hq;right;omega;left;exact hq);exact q3.trans qx (by intro q hq;right;simp at hq;omega)
 .intro b hb;unfold PI.all at hb;simp only[aEP]at hb;rcases hb with hb|hb|hb|hb|hb|hb
  .right;omega
  .right;omega
  .right;omega
  .right;omega
  .right;omega
  .rcases(xq b hb).1 with h1|h1
   .left;exact h1
   .right;omega
end
