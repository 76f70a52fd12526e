import Derived.Test.YtomffjeofpafnaaGreatDoorPagD
namespace Lim
open Go
noncomputable section
set_option linter.defProp false
set_option maxRecDepth 100000
section
variable {l:List Nat}{n:Nat}{L:List (Nat×iT)}{mb:Nat}
section
variable {st st':St}
def oG (l:List Nat):List Nat:=l.mergeSort λa b=>decide (a<=b)
def vp (l:List Nat):(oG l).Perm l:=List.mergeSort_perm l _
def tM :n∈oG l↔n∈l:=(vp l).mem_iff
def yD (h:l.Nodup):(oG l).Nodup:=(vp l).nodup_iff.2 h
def xV (l:List Nat):(oG l).length=l.length:=(vp l).length_eq
def sX {d:List eK}(h:cY d (gX L)):jA d=(L.map (·.1)).map Int.ofNat/\(∀e∈d,∃n:Nat,n∈L.map (·.1)/\e.1=I n):=by
 induction d generalizing L with
 |nil=>cases L with
  |nil=>exact⟨rfl,wb⟩
  |cons p r=>simp[cY,gX]at h
 |cons e d g=>cases L with
  |nil=>simp[cY,gX]at h
  |cons p r=>
   have f:=h;simp only[cY,gX,aIt,aJl,aJD]at f;obtain⟨⟨a,b⟩,c⟩:=f;obtain⟨j,i⟩:=g (L:=r) c;refine⟨?_,?_⟩
   .show(match e.1 with| .int _ a=>a|_=>0)::jA d=_;rw[a,j];rfl
   .intro x hx;rcases aHJ.1 hx with rfl|hx
    .exact⟨p.1,wb,a⟩
    .obtain⟨n,hn,e⟩:=i x hx;exact⟨n,by simp at hn⊢;exact .inr hn,e⟩
def lA (L:List (Nat×iT)):(gX L).map (·.1)=(L.map (·.1)).map Int.ofNat:=by unfold gX;simp
def iW (h:(l.map Int.ofNat).Nodup):l.Nodup:=by
 induction l with
 |nil=>simp
 |cons a l b=>
  simp only[aIt,aHX]at h;exact aHX.2 ⟨λhh=>h.1 (aIW hh),b h.2⟩
def IsMap.Of {b:Nat}(h:IsMap st b (gX L))(v:L.length<=1000000)(q:∀n∈L.map (·.1),n<=1000000):∃es,cY es (gX L)/\mF (st.m.g b)=es/\oe (st.m.g b) es/\iP es:=by
 have o:=h.nd
 have i:∀es,cY es (gX L)->iP es:=λes f=>by
  obtain⟨k,j⟩:=sX f;refine⟨λe u=>?_,by rw[k,<-lA];exact o,by rw[f.len];unfold gX;simp;omega⟩;obtain⟨n,p,e⟩:=j e u;exact⟨n,e,uM,by have:=q n p;omega⟩
 rcases h with⟨es,c,d,a,_,s,r⟩|⟨es,d,a,_⟩
 .exact⟨es,a,by rw[d];rfl,by rw[d];exact⟨rfl,r,s⟩,i es a⟩
 .exact⟨es,a,by rw[d];rfl,by rw[d];exact rfl,i es a⟩
def LW :R 122 [.map mb] st λv st'=>v=.func (.func 163) [] [.ptr st.nx 0]/\st'.m.g st.nx=some (.cells [.map mb] 153 false)/\Kp [] st st'/\st'.nx=st.nx+1:=by
 refine bK ?_;rw[ano];rw[bS];refine⟨rfl,?_⟩;rw[lV,af];exact⟨rfl,au _ _,(Kp.refl _ _).new _,rfl⟩
def CM {j:Nat}{t:TypeId}{g:Bool}(u:st.m.g j=some (.cells [.map mb] t g))(h:IsMap st mb (gX L))(p:L.length<=1000000)(q:∀n∈L.map (·.1),n<=1000000):
 R 121 [.func (.func 163) [] [.ptr j 0]] st (Made 1 3 (cP (oG (L.map (·.1)))) st):=by
 obtain⟨e,k,x,w,v⟩:=h.Of p q
 have d:I0 121 [.func (.func 163) [] [.ptr j 0]] st=some (wv 3 e st):=by
  show Gt 163 3 [.func (.func 163) [] [.ptr j 0]] st=_;unfold Gt;simp only[u];rw[x,aHP ⟨rfl,w,v⟩]
 have c:e.length=L.length:=by rw[k.len];unfold gX;simp
 unfold wv at d
 by_cases i:e=[]
 .rw[aHP i]at d;refine SO d ?_;have:L=[]:=by rw[i]at c;exact aIh.1 c.symm
  subst this;exact⟨[],Kp.refl _ _,.inl ⟨rfl,by simp[oG,cP],rfl⟩,wb⟩
 .rw[aHM i]at d;refine SO d ?_
  have o:(pI (jA e)).map I=cP (oG (L.map (·.1))):=by
   rw[(sX k).1];unfold pI oG cP;rw[<-List.map_mergeSort (r:=λa b=>decide (a<=b)) (f:=Int.ofNat) (s:=λa b=>decide (a<=b)) (λa _ b _=>wb)];rw[aKs];rfl
  rw[o];refine⟨[st.nx],(Kp.refl [] st).new _,.inr (.inr ⟨st.nx,e.length,rfl,aJu.2 i,?_,rfl,au _ _⟩),wb⟩;rw[qM,xV,aIx,c];omega
def oN (d s:List (Nat×iT)):List (Nat×iT):=d.filter (λe=>decide (e.1∉s.map (·.1)))++s
def GW (a b:List (Nat×iT))(n:Nat):cZ (a++b) n=(cZ a n).or (cZ b n):=by
 induction a with
 |nil=>rfl
 |cons p r c=>simp only[aIL,cZ];split;rfl;exact c
def mz {l:List (Nat×iT)}:cZ l n=none↔n∉l.map (·.1):=by
 induction l with
 |nil=>simp[cZ]
 |cons p r a=>simp only[cZ,aIt,aHJ,aJf];split;simp_all;rw[a];simp_all
def Nl (d s:List (Nat×iT))(n:Nat):cZ (oN d s) n=(cZ s n).or (cZ d n):=by
 unfold oN;rw[GW]
 have b:cZ (d.filter (λe=>decide (e.1∉s.map (·.1)))) n=if n∈s.map (·.1)then none else cZ d n:=by
  induction d with
  |nil=>simp[cZ]
  |cons p r c=>
   rw[aJa]
   by_cases h:p.1∈s.map (·.1)
   .rw[aHM TK,c];simp only[cZ]
    by_cases a:n=p.1
    .subst a;rw[aHP h,aHP h]
    .rw[aHM a]
   .rw[aHP TK];simp only[cZ,c]
    by_cases a:n=p.1
    .subst a;rw[aHP rfl,aHM h,aHP rfl]
    .rw[aHM a,aHM a]
 rw[b]
 by_cases h:n∈s.map (·.1)
 .rw[aHP h];cases hs:cZ s n with
  |none=>exact absurd h (mz.1 hs)
  |some x=>rfl
 .rw[aHM h,mz.2 h];cases cZ d n<;>rfl
end
end
def aU.lay (D:aU)(first:Nat)(l:List dN):aU:=l.foldl (λD e=>(D.write (Int.ofNat (first+e.1)) e.2).2) D
def aU.Hp (D:aU)(first:Nat)(l:List dN)(e:dN):D.lay first (l++[e])=((D.lay first l).write (Int.ofNat (first+e.1)) e.2).2:=by unfold aU.lay;rw[aKr];rfl
structure DO (D:aU)(first:Nat)(l:List dN):Prop where
 calm:Calm (D.lay first l)
 Dq:(D.lay first l).Dq
 aq:(D.lay first l).aq=D.aq
 waits:(D.lay first l).waits=D.waits++l.map λe=>(first+e.1,e.2)
 low:∀j,j<first->(D.lay first l).cur j=D.cur j
 other:∀n,n∉l.map (·.1)->(D.lay first l).cur (first+n)=D.cur (first+n)
 at_:(l.map (·.1)).Nodup->∀e∈l,(D.lay first l).cur (first+e.1)=e.2
 set:(D.lay first l).set=D.set
def DO.nil {D:aU}{first:Nat}(h:Calm D)(b:D.Dq):DO D first []:=⟨h,b,rfl,by simp[aU.lay],λ_ _=>rfl,λ_ _=>rfl,λ_ e c=>(by cases c),rfl⟩
def DO.snoc {D:aU}{first:Nat}{l:List dN}{e:dN}(hi:DO D first l)(q:first+e.1<D.aq.length)(z:e.2.length=512)(k:((D.lay first l).write ((first+e.1:Nat):Int) e.2).1=0):DO D first (l++[e]):=by
 have b:D.lay first (l++[e])=((D.lay first l).write ((first+e.1:Nat):Int) e.2).2:=D.Hp first l e
 rcases hi.calm.write (i:=first+e.1) (s:=e.2) (by rw[hi.aq];exact q) z hi.Dq with⟨m,y,w,v,u,f,r⟩|⟨m,_⟩
 .refine⟨by rw[b];exact y,by rw[b];exact v,by rw[b,w];exact hi.aq,by rw[b,u,hi.waits];simp,λj o=>?_,λn g=>?_,λd x c=>?_,by rw[b,r];exact hi.set⟩
  .rw[b,f,aHM uM];exact hi.low j o
  .rw[b,f,aHM (λhh=>g (by simp;exact .inr uM))];exact hi.other n λhh=>g (by simp at hh⊢;exact .inl hh)
  .rw[b,f];rw[aIQ,aIE]at d;rcases aHT.1 c with c|c
   .have A:=d.2.2 x.1 (aIW c) e.1 wb;rw[aHM uM];exact hi.at_ d.1 x c
   .have:x=e:=by simpa using c
    subst this;rw[aHP rfl]
 .rw[m]at k;cases k
def dK (d:List dN)(b:List Nat):List dN:=b.map λn=>(n,(cZ d n).getD [])
def ng (d:List dN)(ks:List Nat):(dK d ks).map (·.1)=ks:=by unfold dK;rw[aKs];exact List.map_id ks
def Au {d:List dN}{n:Nat}{s:iT}(h:cZ d n=some s):(n,s)∈d:=by
 induction d with
 |nil=>cases h
 |cons p r b=>
  simp only[cZ]at h
  split at h
  .rename_i hn;cases h;subst hn;exact aIO
  .exact aIH _ (b h)
section
variable {st st':St} {p a:Nat} {lg:CV} {M:bR} {bd bn bi bc:Nat} {F:List Nat} {D:aU}
def SQ (p a:Nat)(M:bR)(bn bi bc:Nat)(F:List Nat)(D:aU)(base count:Nat)(P:Nat->Piece)(st:St)(v:CV)(st':St):Prop:=
 v=I 0/\Kp (p::F) st st'/\∃r bd' F' D',bZ st' p a (.ptr r 0) {M with dirty:=[]} bd' bn bi bc/\cQ st' a F' D'/\Calm D'/\D'.waits=[]/\D'.aq.length=D.aq.length/\fL st' r a (RingM.opened 1 count base P)/\st.nx<=r/\st.nx<=bd'/\r≠bd'/\(∀b∈F',(b∈F\/st.nx<=b)/\b≠r/\b≠bd')/\
  (∀j,D'.cur j=if j=0 then c9 base else if j<M.first then D.cur j else (cZ M.dirty (j-M.first)).getD (D.cur j))/\D'.set=D.set
structure abM (D:aU)(first:Nat)(dirty:List dN)(base:Nat)(D':aU):Prop where
 dead:D'.dead=true
 waits:D'.waits=[]
 len:D'.aq.length=D.aq.length
 cur:(∀j,D'.cur j=D.cur j\/∃n s,j=first+n/\cZ dirty n=some s/\D'.cur j=s)\/((D'.cur 0=c9 base\/D'.cur 0=D.cur 0)/\∀j,j≠0->D'.cur j=if j<first then D.cur j else (cZ dirty (j-first)).getD (D.cur j))
def aji (a:Nat)(F:List Nat)(c:Bool)(S:aU->Prop)(st:St)(v:CV)(st':St):Prop:=v=I 20/\c=true/\∃F' D',cQ st' a F' D'/\(∀b∈F',b∈F\/st.nx<=b)/\S D'
def Ar (h:bZ st p a lg M bd bn bi bc)(hd:cQ st a F D)(hc:Calm D)(hw:D.waits=[])(jH:eA st)(hF:∀b∈F,b∉[p,bd,bn,bi,bc])(Jb:M.dirty.length<=1000000)(Cu:∀e∈M.dirty,e.1<M.aE/\e.2.length=512)(NX:M.first+M.aE=D.aq.length)(Fh:M.first=1+D.aq.length/4)(h4:4<=D.aq.length)
 {base:Nat} (d:base<=1000000000) {P:Nat->Piece} (hP:∀j,j<D.aq.length/4->D.cur (1+j)=(P j).bX/\(P j).ok):
 R 73 [.ptr p 0,I base] st λv st'=>SQ p a M bn bi bc F D base (D.aq.length/4) P st v st'\/(Kp F st st'/\aji a F D.set (abM D M.first M.dirty base) st v st'):=by
 refine bK ?_;rw[w73];have aR:=(show D.aq.length<=65536 from by obtain⟨_,_,_,_,_,_,_,h⟩:=hd;exact h.size);rw[cM];simp only[eQ,bj,ah,af,az,h.main,ar,aHN,aHI,aHG,aw];refine LW.mono ?_;rintro _ eu ⟨rfl,qS,nI,aQ⟩;have ae:=h.keep nI wb;refine(CM qS ae.dirty Jb (λn H=>?_)).mono ?_
 .obtain⟨e,O,rfl⟩:=aIk.1 H;have:=(Cu e O).1;omega
 intro x T HI;have vI:=HI.kp;have TI:=nI.trans vI wb;have VJ:=ae.keep vI wb;have aN:=hd.keep TI wb;have aO:=TI.nx;have Ob:=hd.lt
 have L6:Sl T (p::F) x 1 (cP (oG (M.dirty.map (·.1)))):=HI.sl _ λb d=>by
  rcases aHJ.1 d with rfl|d
  .have:=h.lt b wb;omega
  .have:=Ob b d;omega
 have a3:(oG (M.dirty.map (·.1))).length=M.dirty.length:=by rw[xV,aIx]
 have Tv:=iW (by rw[<-lA];exact h.dirty.nd);have Vu:=yD Tv
 have Rj:∀n∈oG (M.dirty.map (·.1)),∃s,cZ M.dirty n=some s/\n<M.aE/\s.length=512:=λn H=>by
  rw[tM]at H;cases A:cZ M.dirty n with
  |none=>exact absurd H (mz.1 A)
  |some s=>have:=Cu _ (Au A);exact⟨s,rfl,this.1,this.2⟩
 generalize mC:oG (M.dirty.map (·.1))=ks at*;have hlen:=L6.len ks.length wb uM T;rw[hlen,af];simp only[aK,aL];have aA:D.Dq:=adu
 refine bG (λfu vs s=>∃i F1,fu+i=ks.length/\vs=[.ptr p 0,I base,x,I ks.length,I i]/\Kp F T s/\cQ s a F1 (D.lay M.first (dK M.dirty (ks.take i)))/\(∀b∈F1,b∈F\/T.nx<=b)/\DO D M.first (dK M.dirty (ks.take i))) ?_ (n:=ks.length) ⟨0,F,rfl,rfl,Kp.refl _ _,aN,afk,.nil hc aA⟩;rintro fu vs s k ⟨i,F1,hi,rfl,L,XK,J,u⟩ next;simp only[aK,aL];rw[dD,af,ag];have yY:=VJ.keep L λb d hh=>hF b hh d;have A2:=yY.main;have rE:=L.nx;have Vz:=L.fresh (TI.fresh jH)
 have yk:∀b∈[p,bd,bn,bi,bc],b∉F1:=λb d hh=>by
  rcases J b hh with c|c
  .exact hF b c d
  .have:=h.lt b d;omega
 by_cases sD:i<ks.length
 .rw[aHQ sD,aHP rfl];refine((L6.eH (Y:=F) (by intro q hq;left;simp[hq])).mono L).idx (i:=i) ado _ ?_;have e9:(cP ks)[i]'(by simpa using sD)=I ks[i]:=by simp[cP]
  rw[e9];obtain⟨f,A,aW,X⟩:=Rj ks[i] (aIc sD);have A3:=IsMap.lookup yY.dirty (.agg (zr 512)) false ks[i] s rfl;rw[aHM xI,qx,A]at A3;simp only[aIZ,aJg]at A3;simp only[bj,ah,af,az,aHN,A2,ar,aHI,aHG,aw,A3];have vP:(ai f).length=512:=by simpa using X
  refine gW vP (bu _) ?_;have W:=(Kp.refl [] s).page (ai f);have g4:(St.set (St.new s (.cells (zr 512) 173 false)) s.nx (.cells (ai f) 173 false)).m.g s.nx=some (.cells (ai f) 173 false):=an _ _ _;have n4:(St.set (St.new s (.cells (zr 512) 173 false)) s.nx (.cells (ai f) 173 false)).nx=s.nx+1:=rfl;generalize St.set (St.new s (.cells (zr 512) 173 false)) s.nx (.cells (ai f) 173 false)=s4 at*;have TA:=yY.keep W wb;have ax:=XK.keep W wb;have ao:=TA.main;have zH:bT 512 1 (.ptr s.nx 0) none none s4=.ok (.slice s.nx 0 512 512 0) s4:=rfl;have e1:aj .add none false (I M.first) (I ks[i]) s4=.ok (I ((M.first+ks[i]:Nat):Int)) s4:=O8
  have aG:=XK.lt;have ZH:Sl s4 F1 (.slice s.nx 0 512 512 0) 1 (ai f):=.inr ⟨s.nx,0,512,512,0,rfl,by simp[X],⟨aHK _,.inl rfl⟩,.inr ⟨λhh=>by have:=aG _ hh;omega,uM,_,_,_,g4,uM,Yv⟩⟩;simp only[bD,ao,ar,aHI,aHG,aw,e1,af,zH];have a4:(dK M.dirty (ks.take i)).length<=1000000:=by unfold dK;simp;omega
  refine(wg ax (i:=((M.first+ks[i]:Nat):Int)) (W.fresh Vz) (by rw[u.waits,hw];simp;omega) ZH X).mono ?_;rintro _ s5 ⟨rfl,k5,U,ac,xN⟩
  have ab:dK M.dirty (ks.take i)++[(ks[i],f)]=dK M.dirty (ks.take (i+1)):=by
   rw[aIa sD];unfold dK;rw[aIQ];simp[A]
  rcases u.calm.write (i:=M.first+ks[i]) (s:=f) (by rw[u.aq];omega) X u.Dq with⟨w1,_⟩|⟨w1,w2,V⟩
  .rw[w1];have S:aj .neq (some .int) true (I 0) (.int .i64 0) s5=.ok (.bool false) s5:=rfl;refine⟨⟨afp,afp,afp⟩,afp,?_⟩;simp only[S,af,ag,aHH,aHV,gJ i uM];refine next (fu-1) _ _ uM ⟨i+1,U,uM,rfl,?_,?_,λb d=>?_,?_⟩
   .exact(L.trans W wb).trans k5 λq hq=>J q hq
   .rw[<-ab,aU.Hp];exact ac
   .rcases xN b d with c|c
    .exact J b c
    .right;omega
   .rw[<-ab];exact u.snoc (by show M.first+ks[i]<_;omega) X w1
  .rw[w1];have S:aj .neq (some .int) true (I 20) (.int .i64 0) s5=.ok (.bool true) s5:=rfl;refine⟨⟨afp,afp,afp⟩,afp,?_⟩;simp only[S,af,ag,aIj];rw[u.set]at w2;rw[u.aq,u.waits,hw,aIm]at V;refine .inr ⟨?_,rfl,w2,U,_,ac,λb d=>?_,V.dead,V.waits,V.len,.inl λj=>?_⟩
   .exact(((TI.mono wb).trans L λq hq=>.inl aaa).trans W wb).trans k5 λq hq=>(J q hq).imp (λh=>aaX) λh=>uM
   .rcases xN b d with c|c
    .exact(J b c).imp id λh=>uM
    .right;omega
   .rcases V.cur j with c|⟨w,c,h2,h3⟩
    .left;rw[c,lK hw]
    .right;rcases aHT.1 c with h4|h4
     .obtain⟨e,O,rfl⟩:=aIk.1 h4;unfold dK at O;obtain⟨n,H,rfl⟩:=aIk.1 O;obtain⟨s',q1,_⟩:=Rj n (aIw H);exact⟨n,s',h2.symm,q1,acN⟩
     .have:w=(M.first+ks[i],f):=by simpa using h4
      subst this;exact⟨ks[i],f,h2.symm,A,h3⟩
 .rw[aHL sD,aHM xI];have xL:ks.take i=ks:=aHS uM;rw[xL]at XK u;have Q1:Kp F st s:=(TI.mono wb).trans L λq hq=>.inl aaa;have Zu:(D.lay M.first (dK M.dirty ks)).waits=(dK M.dirty ks).map λe=>(M.first+e.1,e.2):=by rw[u.waits,hw,aIm]
  have aZ:(dK M.dirty ks).length=ks.length:=by unfold dK;simp
  generalize y:D.lay M.first (dK M.dirty ks)=D1 at*;simp only[bj,ah,af,az,aHN,A2,ar,aHG,aw];refine(xe XK (by rw[Zu];simp;omega)).mono ?_;rintro _ s6 ⟨rfl,k6,U,xM,xN⟩;have Ri:=u.aq;rw[y]at Ri;have S:∀s,aj .neq (some .int) true (I 0) (.int .i64 0) s=.ok (.bool false) s:=λs=>rfl;have Je:∀s,aj .neq (some .int) true (I 20) (.int .i64 0) s=.ok (.bool true) s:=λs=>rfl;have Tz:=yY.keep k6 yk;have am:=Tz.main;have VA:=k6.fresh Vz;have n6:=k6.nx
  have VL:∀b∈U,b∈F\/T.nx<=b:=λb d=>by
   rcases xN b d with c|c
   .exact J b c
   .right;omega
  have aJ:∀b∈[p,bd,bn,bi,bc],b∉U:=λb d hh=>by
   rcases VL b hh with c|c
   .exact hF b c d
   .have:=h.lt b d;omega
  have Q2:=Q1.trans k6 λq hq=>(J q hq).imp (λh=>aaX) λh=>uM
  have fo:=u.set;rw[y]at fo;have aa:=u.calm.flush u.Dq;rw[y]at aa;rcases aa with⟨f1,f2,E,f4,f5,f6⟩|⟨f1,f2,E⟩
  case inr=>
   rw[f1];simp only[Je,af,ag,aIj];rw[fo]at f2;rw[Ri,Zu]at E;refine .inr ⟨Q2,rfl,f2,U,_,xM,λb d=>(VL b d).imp id λh=>uM,E.dead,E.waits,E.len,.inl λj=>?_⟩;rcases E.cur j with c|⟨w,c,h2,h3⟩
   .left;rw[c,lK hw]
   .right;obtain⟨e,O,rfl⟩:=aIk.1 c;unfold dK at O;obtain⟨n,H,rfl⟩:=aIk.1 O;obtain⟨s',q1,_⟩:=Rj n H;exact⟨n,s',h2.symm,q1,acN⟩
  generalize a2:D1.flush.2=D2 at*;rw[f1];simp only[S,af,ag,aHH,aHV,am,ar,aHG,aw];refine(Mo VA xM (by rw[f4];simp) (base:=base) uM).mono ?_;rintro _ s7 ⟨rfl,k7,F3,Dx,Bb⟩;have Mw:=Tz.keep k7 aJ;have Z:=Mw.main;have aB:=k7.fresh VA;have n7:=k7.nx
  have Oc:∀b∈F3,b∈F\/T.nx<=b:=λb d=>by
   rcases Bb b d with c|c
   .exact VL b c
   .right;omega
  have XN:∀j,j≠0->D2.cur j=if j<M.first then D.cur j else (cZ M.dirty (j-M.first)).getD (D.cur j):=by
   intro j z;rw[f5]
   by_cases N:j<M.first
   .rw[aHP N];have:=u.low j N
    rwa [y]at this
   .rw[aHM N];obtain⟨n,rfl⟩:∃n,j=M.first+n:=⟨j-M.first,uM⟩;rw[aJn];cases A:cZ M.dirty n with
    |none=>
     have:=u.other n (by rw[ng,<-mC,tM];exact mz.1 A)
     rwa [y]at this
    |some s'=>
     have iS:(n,s')∈dK M.dirty ks:=by
      unfold dK;refine aIk.2 ⟨n,?_,by rw[A];rfl⟩;rw[<-mC,tM];exact aIk.2 ⟨_,Au A,rfl⟩
     have:=u.at_ (by rw[ng];exact Vu) _ iS;rw[y]at this;exact this
  have aM:D2.cur 0=D.cur 0:=by
   rw[f5];have:=u.low 0 uM
   rwa [y]at this
  have Q3:=Q2.trans k7 λq hq=>(VL q hq).imp (λh=>aaX) λh=>uM
  rcases f2.head f4 (by rw[E,Ri];omega) base with⟨g1,g2,Q,g4,g5,g6⟩|⟨g1,g2,Q⟩
  case inr=>
   rw[g1];simp only[Je,af,ag,aIj];refine .inr ⟨Q3,rfl,by rw[<-fo,<-f6];exact g2,F3,_,Dx,λb d=>(Oc b d).imp id λh=>uM,Q.dead,Q.waits,by rw[Q.len,E,Ri],.inr ⟨?_,λj z=>?_⟩⟩
   .rcases Q.cur 0 with c|⟨w,c,h2,h3⟩
    .right;rw[c,<-lK f4,aM]
    .have:w=(0,c9 base):=by simpa using c
     subst this;left;exact h3
   .rcases Q.cur j with c|⟨w,c,h2,h3⟩
    .rw[c,<-lK f4,XN j z]
    .have:w=(0,c9 base):=by simpa using c
     subst this;exact absurd h2.symm z
  have uH:∀j,(D2.head base).2.cur j=if j=0 then c9 base else if j<M.first then D.cur j else (cZ M.dirty (j-M.first)).getD (D.cur j):=by
   intro j;rw[g5]
   by_cases z:j=0
   .rw[aHP z,aHP z]
   .rw[aHM z,aHM z];exact XN j z
  generalize a1:(D2.head base).2=D3 at*;rw[g1];have I8:D3.aq.length=D.aq.length:=by rw[Q,E,Ri]
  simp only[S,af,ag,aHH,aHV,bD,Z,ar,aHG,aw];refine(qA Dx).same ?_;rw[I8]
  have ay:tH D3 ⟨1,D.aq.length/4,base,base,base⟩ P:=⟨adl,acT,uM,adp,λj z=>by
   have z:j<D.aq.length/4:=z;show D3.cur (1+j)=_/\_;rw[uH,aHM uM,aHP uM];exact hP j z⟩
  refine(Al aB Dx g2.dead ay d).mono ?_;rintro _ B ⟨r,xo,Fo,Gg,rfl,k9,kV,uW,a0,hr⟩;have n9:=k9.nx;have ad:=Mw.keep k9 wb;have au:=Dx.keep k9 wb;have aY:=ad.main;rw[aD,af,aI,aD,af,aI,aI,aD,af];refine⟨⟨⟨by rw[Z];exact rfl,afp⟩,afp,afp⟩,afp,?_⟩;rw[S,af,ag,aHM xI,fV,aP];have kA:Kp [] B (St.new B (.map [] 0)):=(Kp.refl [] B).new _;have mA:=dd.new B;have nA:(St.new B (.map [] 0)).nx=B.nx+1:=rfl;generalize St.new B (.map [] 0)=sA at*;have C:=ad.keep kA wb;have ap:=au.keep kA wb;have al:=C.main
  have vN:∀{s:St} {l:List CV} {x:CV} {o:Nat} {K:St->Prop},s.m.g p=some (.cells l 158 false)->x.cK=[x]->cF x=true->o<l.length->K (St.set s p (.cells (bz l o [x]) 158 false))->mc 1 o (.ptr p 0) x s K:=by
   intro s l x o K A c h2 h3 hK;simp only[mc,bj,ah,af,aH,A,aS,c,aHN];exact⟨⟨rfl,adb,h3⟩,hK⟩
  refine vN al rfl rfl (by decide:(1:Nat)<16) ?_;refine vN (an _ _ _) rfl rfl (by exact(by decide:(4:Nat)<16)) ?_;rw[set_set];have kW:bz (bz [.ptr a 0,lg,I M.first,I M.aE,.map bd,.map bn,I M.kept.root,I M.kept.used,I M.kept.head,I M.kept.free,I M.m.root,I M.m.used,I M.m.head,I M.m.free,.map bi,.map bc] 1 [.ptr r 0]) 4 [.map B.nx]=[.ptr a 0,.ptr r 0,I M.first,I M.aE,.map B.nx,.map bn,I M.kept.root,I M.kept.used,I M.kept.head,I M.kept.free,I M.m.root,I M.m.used,I M.m.head,I M.m.free,.map bi,.map bc]:=rfl;rw[kW];have aF:=C.lt p wb;have G:=h.nd;simp only[aHX,aHJ,aIo,aJj,aJf]at G;have kB:Kp [p] sA (St.set sA p (.cells [.ptr a 0,.ptr r 0,I M.first,I M.aE,.map B.nx,.map bn,I M.kept.root,I M.kept.used,I M.kept.head,I M.kept.free,I M.m.root,I M.m.used,I M.m.head,I M.m.free,.map bi,.map bc] 158 false)):=(Kp.refl _ sA).set _ (.inl wb) aF;have X3:=Dx.lt
  have aC:∀b∈F3,b∉[p]:=λb d hh=>by
   have hh:b=p:=by simpa using hh
   subst hh;rcases Oc b d with c|c
   .exact hF b c wb
   .have:=h.lt b wb;omega
  have Md:=h.lt;have Vj:=Md p wb;have NP:=Md bn wb;have aV:=Md bi wb;have aT:=Md bc wb;have Co:=kV.1;refine .inl ⟨rfl,?_,r,B.nx,F3,D3,⟨an _ _ _,.inl (mA.mono (ak _ _ _ _ uM)),C.now.mono (ak _ _ _ _ (aIG G.1.2.1)),C.idle.mono (ak _ _ _ _ (aIG G.1.2.2.1)),C.count.mono (ak _ _ _ _ (aIG G.1.2.2.2)),?_,?_,⟨rfl,rfl,rfl⟩⟩,ap.keep kB aC,g2,g4,I8,?_,uM,uM,uM,λb d=>⟨(Oc b d).imp id λh=>uM,?_,?_⟩,uH,g6.trans (f6.trans fo)⟩
  .exact(((Q3.trans k9 wb).trans kA wb).mono λq hq=>.inl (aIH _ hq)).trans kB λq hq=>.inl (by simp at hq;simp[hq])
  .simp only[aHX,aHJ,aIo,aJj,aJf];exact⟨⟨uM,G.1.2.1,G.1.2.2.1,G.1.2.2.2⟩,⟨uM,uM,uM⟩,G.2.2⟩
  .intro b d;simp at d;show b<sA.nx;omega
  .exact(kV.keep kA wb).keep kB zS
  .have:=X3 b d;omega
  .have:=X3 b d;omega
end
def kU (first a:Nat)(dirty:List dN)(kept:iZ)(fr:List Nat):bR:=⟨first,a,dirty,[],kept,kept,fr,[]⟩
def gN {first a:Nat}{dirty:List dN}{kept:iZ}{fr:List Nat}(D:aU)(n:Nat):(kU first a dirty kept fr).get D n=(cZ dirty n).getD (D.cur (first+n)):=by
 unfold kU bR.get;simp only[cZ];cases cZ dirty n<;>rfl
def sC.congr {M M':bR}{D D':aU}{G:GM}(h:sC M D G)(e:∀n,n<M.aE->M'.get D' n=M.get D n)(c:M'.aE=M.aE)(a:M'.m=M.m)(g:M'.idle=M.idle)(o:M'.now=M.now)(d:M'.count=M.count)(k:M'.first=M.first)(j:D'.aq.length=D.aq.length):sC M' D' G:=by
 have f:=h.ok.ik;refine⟨c.trans h.aE,by rw[a];exact h.used,by rw[a];exact h.root,by rw[a];exact h.head,by rw[a];exact h.free,by rw[g];exact h.idle,by rw[g];exact h.yR,h.ok,by rw[k,c,j];exact h.fits,λn b=>?_,λn b=>?_,?_,by rw[o,d];exact h.count,by rw[d];exact h.tp,by rw[d];exact h.uS,d.trans h.ef⟩
 .rw[e n (by rw[h.aE];omega)];exact h.len n b
 .rw[e n (by rw[h.aE];have:=b.2.1;omega)];exact h.cont n b
 .have key:∀l:List Nat,(∀n∈l,n<M.aE)->O3 M D l->O3 M' D' l:=by
   intro l
   induction l with
   |nil=>intro _ _;trivial
   |cons n r i=>intro c a;exact⟨(e n (c n wb)).trans a.1,i (λm f=>c m (by simp[f])) a.2⟩
  exact key _ (λn b=>by rw[h.aE];have:=(h.ok.fr n b).2;omega) h.chain
structure jh (D:aU)(Gk:GM)(base last:Nat)(P:Nat->Piece)(Ls:List (List dN))(kept:iZ):Prop where
 calm:Calm D
 waits:D.waits=[]
 least:64<=D.aq.length
 ik:D.aq.length<=65536
 head:D.cur 0=c9 base
 kQ:∀j,j<D.aq.length/4->D.cur (1+j)=(P j).bX/\(P j).ok
 laid:jq P (D.aq.length/4) base (Ls.map dL) last
 le:∀j,j<D.aq.length/4->(P j).n<=last
 room:last<=base+D.aq.length/4
 og:∀l∈Ls,∀e∈l,e.1<D.aq.length-1-D.aq.length/4/\e.2.length=512
 small:∀l∈Ls,(dL l).length<=1000000
 rep:sC (kU (1+D.aq.length/4) (D.aq.length-1-D.aq.length/4) (cU [] Ls) kept Gk.fr) D Gk
 zero:(kU (1+D.aq.length/4) (D.aq.length-1-D.aq.length/4) (cU [] Ls) kept Gk.fr).get D 0=bO kept
 root:kept.root<2147483648
def jq.count {P:Nat->Piece}{count:Nat}:∀{a:List (List UInt8)} {s e:Nat},jq P count s a e->s+a.length<=e:=by
 intro a
 induction a with
 |nil=>intro s e h;have h:e=s:=h;simp[h]
 |cons r a b=>intro s e h;have:=b h.2;have:=lC r.length;simp;omega
def Qi {m:iZ}(f:m.root<4294967296)(c:m.used<4294967296)(b:m.head<4294967296)(a:m.free<4294967296):Th (bO m)=m:=by
 have e:bO m=be 4 m.root++(be 4 m.used++(be 4 m.head++(be 4 m.free++List.replicate 496 0))):=by
  unfold bO sW mn;generalize List.replicate 496 (0:UInt8)=z;simp only[aIt,List.map_nil,aJx,List.flatten_nil,aIJ,aIq]
 have t:∀(n:Nat) (r:List UInt8),(be 4 n++r).take 4=be 4 n:=λn r=>aJk (iC 4 n);have d:∀(n:Nat) (r:List UInt8),(be 4 n++r).drop 4=r:=λn r=>aKF (iC 4 n);unfold Th;rw[show 8=4+4 from rfl,show 12=4+(4+4)from rfl];simp only[<-aKz];rw[e,t,d,t,d,t,d,t,vU 4 _ uM,vU 4 _ uM,vU 4 _ uM,vU 4 _ uM]
def jh.WQ {D:aU}{Gk:GM}{base last:Nat}{P:Nat->Piece}{Ls:List (List dN)}{kept:iZ}(h:jh D Gk base last P Ls kept):Th (bO kept)=kept:=by
 have h1:=h.rep.ok.ik;have h2:=h.rep.ok.size;have c:=h.rep.used;have b:=h.rep.head;have a:=h.rep.free;have e:=kT Gk.used Gk.fr h.rep.ok.nd λx d=>(h.rep.ok.fr x d).2
 have f:Gk.fr.headD 0<=Gk.used:=by
  cases hf:Gk.fr with
  |nil=>simp
  |cons n r=>have:=(h.rep.ok.fr n (by rw[hf];simp)).2;simp;omega
 have c:kept.used=Gk.used:=c;have b:kept.head=Gk.fr.headD 0:=b;have a:kept.free=Gk.fr.length:=a;exact Qi (by have:=h.root;omega) uM uM uM
def jh.opened {D:aU}{Gk:GM}{base last:Nat}{P:Nat->Piece}{Ls:List (List dN)}{kept:iZ}(h:jh D Gk base last P Ls kept):iH P (D.aq.length/4) (D.aq.length/4) base [] [] base=(Ls.map dL,last)/\RingM.opened 1 (D.aq.length/4) base P=⟨1,D.aq.length/4,base,last,last⟩:=by
 have a:0<D.aq.length/4:=by have:=h.least;omega
 have b:(P ((last+1)%(D.aq.length/4))).n≠last+1:=by
  have:=h.le ((last+1)%(D.aq.length/4)) (aKq _ a);omega
 have e:=PW h.laid b (D.aq.length/4) [] h.room;rw[aIm]at e;refine⟨e,?_⟩;unfold RingM.opened;rw[e,DX h.laid a h.le]
structure lN (D:aU)(Gk:GM)(base last top:Nat)(P:Nat->Piece)(Ls:List (List dN))(kept:iZ):Prop where
 waits:D.waits=[]
 least:64<=D.aq.length
 ik:D.aq.length<=65536
 head:D.cur 0=c9 base
 kQ:∀j,j<D.aq.length/4->D.cur (1+j)=(P j).bX/\(P j).ok
 Up:iH P (D.aq.length/4) (D.aq.length/4) base [] [] base=(Ls.map dL,last)
 aeg:kG P (D.aq.length/4) base (D.aq.length/4)=top
 le:∀j,j<D.aq.length/4->(P j).n<=top
 bl:base<=last
 lt:last<=top
 ef:Ls.length<=100000
 og:∀l∈Ls,∀e∈l,e.1<D.aq.length-1-D.aq.length/4/\e.2.length=512
 small:∀l∈Ls,(dL l).length<=1000000
 rep:sC (kU (1+D.aq.length/4) (D.aq.length-1-D.aq.length/4) (cU [] Ls) kept Gk.fr) D Gk
 zero:(kU (1+D.aq.length/4) (D.aq.length-1-D.aq.length/4) (cU [] Ls) kept Gk.fr).get D 0=bO kept
 root:kept.root<2147483648
def jh.toK {D:aU}{Gk:GM}{base last:Nat}{P:Nat->Piece}{Ls:List (List dN)}{kept:iZ}(h:jh D Gk base last P Ls kept):lN D Gk base last last P Ls kept:=by
 have h1:=h.opened.1;have h2:=h.laid.count;rw[aIx]at h2;have b:=h.room;have a:=h.ik;exact⟨h.waits,h.least,h.ik,h.head,h.kQ,h1,DX h.laid (by have:=h.least;omega) h.le,h.le,h.laid.le.1,aHK _,uM,h.og,h.small,h.rep,h.zero,h.root⟩
section
variable {D D':aU} {Gk:GM} {base last top:Nat} {P:Nat->Piece} {Ls:List (List dN)} {kept:iZ} {dirty:List dN}
def lN.opened (h:lN D Gk base last top P Ls kept):RingM.opened 1 (D.aq.length/4) base P=⟨1,D.aq.length/4,base,last,top⟩:=by
 unfold RingM.opened;rw[h.Up,h.aeg]
def lN.none (h:lN D Gk base last top P Ls kept):iH P (D.aq.length/4) (D.aq.length/4) top [] [] top=([],top)/\kG P (D.aq.length/4) top (D.aq.length/4)=top:=by
 have a:=h.least;have hn:=h.le ((top+1)%(D.aq.length/4)) (aKq _ uM);constructor
 .obtain⟨f,hf⟩:∃f,D.aq.length/4=f+1:=⟨D.aq.length/4-1,uM⟩
  have e:iH P (D.aq.length/4) (f+1) top [] [] top=([],top):=by
   rw[iH,aHM uM]
  rw[<-hf]at e;exact e
 .refine Nat.le_antisymm (zD P _ top top (aHK _) h.le _ (aHK _)) ?_;exact qw P _ top 0 _ (aJL _)
def lN.settled (h:lN D Gk base last top P Ls kept)(f:∀n,cZ dirty n=cZ (cU [] Ls) n)(g:Calm D')(e:D'.waits=[])(a:D'.aq.length=D.aq.length)
 (b:∀j,D'.cur j=if j=0 then c9 top else if j<1+D.aq.length/4 then D.cur j else (cZ dirty (j-(1+D.aq.length/4))).getD (D.cur j)):jh D' Gk top top P [] kept:=by
 have d:∀n,(kU (1+D.aq.length/4) (D.aq.length-1-D.aq.length/4) [] kept Gk.fr).get D' n=(kU (1+D.aq.length/4) (D.aq.length-1-D.aq.length/4) (cU [] Ls) kept Gk.fr).get D n:=λn=>by
  rw[gN,gN,b,aHM uM,aHM uM,aJn,f];rfl
 refine⟨g,e,by rw[a];exact h.least,by rw[a];exact h.ik,by rw[b,aHP rfl],λj c=>?_,rfl,by rw[a];exact h.le,uM,wb,wb,?_,?_,h.root⟩
 .rw[a]at c;rw[b,aHM uM,aHP uM];exact h.kQ j c
 .rw[a];exact h.rep.congr (λn _=>d n) rfl rfl rfl rfl rfl rfl a
 .rw[a];exact(d 0).trans h.zero
def lN.to (h:lN D Gk base last top P Ls kept)(d:D'.waits=[])(a:D'.aq.length=D.aq.length)(g:D'.cur 0=D.cur 0)(f:∀j,j<D.aq.length/4->D'.cur (1+j)=D.cur (1+j))
 (e:∀n,cZ (cU [] Ls) n=Option.none->D'.cur (1+D.aq.length/4+n)=D.cur (1+D.aq.length/4+n)):lN D' Gk base last top P Ls kept:=by
 have c:∀n,(kU (1+D.aq.length/4) (D.aq.length-1-D.aq.length/4) (cU [] Ls) kept Gk.fr).get D' n=(kU (1+D.aq.length/4) (D.aq.length-1-D.aq.length/4) (cU [] Ls) kept Gk.fr).get D n:=λn=>by
  rw[gN,gN];cases hp:cZ (cU [] Ls) n with
  |none=>rw[e n hp]
  |some s=>rfl
 refine⟨d,by rw[a];exact h.least,by rw[a];exact h.ik,g.trans h.head,λj b=>?_,by rw[a];exact h.Up,by rw[a];exact h.aeg,by rw[a];exact h.le,h.bl,h.lt,h.ef,by rw[a];exact h.og,h.small,?_,?_,h.root⟩
 .rw[a]at b;rw[f j b];exact h.kQ j b
 .rw[a];exact h.rep.congr (λn _=>c n) rfl rfl rfl rfl rfl rfl a
 .rw[a];exact(c 0).trans h.zero
def lN.YK (h:lN D Gk base last top P Ls kept):lN (mH D.aq) Gk base last top P Ls kept:=by
 have e:∀j,(mH D.aq).cur j=D.cur j:=λj=>by rw[lK (D:=mH D.aq) rfl,lK h.waits];rfl
 exact h.to rfl rfl (e 0) (λj _=>e _) λn _=>e _
def lN.aiU (h:lN D Gk base last top P Ls kept)(f:∀n,cZ dirty n=cZ (cU [] Ls) n)(a:abM D (1+D.aq.length/4) dirty top D'):∃base' last' o,lN D' Gk base' last' top P o kept:=by
 rcases a.cur with c|⟨l,c⟩
 .refine⟨_,_,_,h.to a.waits a.len ?_ (λj d=>?_) λn e=>?_⟩
  .rcases c 0 with b|⟨n,s,b,_⟩
   .exact b
   .omega
  .rcases c (1+j)with b|⟨n,s,b,_⟩
   .exact b
   .omega
  .rcases c (1+D.aq.length/4+n)with b|⟨m,s,b,g,_⟩
   .exact b
   .have:m=n:=by omega
    subst this;rw[f,e]at g;cases g
 .have b:∀j,j<D.aq.length/4->D'.cur (1+j)=D.cur (1+j):=λj d=>by rw[c _ uM,aHP uM]
  rcases l with h0|h0
  .have hg:∀n,(kU (1+D.aq.length/4) (D.aq.length-1-D.aq.length/4) [] kept Gk.fr).get D' n=(kU (1+D.aq.length/4) (D.aq.length-1-D.aq.length/4) (cU [] Ls) kept Gk.fr).get D n:=λn=>by
    rw[gN,gN,c _ uM,aHM uM,aJn,f];rfl
   obtain⟨k,i⟩:=h.none;refine⟨top,top,[],a.waits,by rw[a.len];exact h.least,by rw[a.len];exact h.ik,h0,λj d=>?_,by rw[a.len];exact k,by rw[a.len];exact i,by rw[a.len];exact h.le,aHK _,aHK _,wb,wb,wb,?_,?_,h.root⟩
   .rw[a.len]at d;rw[b j d];exact h.kQ j d
   .rw[a.len];exact h.rep.congr (λn _=>hg n) rfl rfl rfl rfl rfl rfl a.len
   .rw[a.len];exact(hg 0).trans h.zero
  .refine⟨_,_,_,h.to a.waits a.len h0 b λn e=>?_⟩;rw[c _ uM,aHM uM,aJn,f,e];rfl
end
def Wi (Gk:GM)(N T:Nat)(D:aU):Prop:=D.dead=true/\D.aq.length=N/\∃base last top P Ls kept,lN D Gk base last top P Ls kept/\top<=T
structure ib (π:PI)(st:St)(Gk:GM)(T:Nat):Prop where
 ex:∃base last P Ls r,jh π.D Gk base last P Ls π.kept/\last<=T/\π.lg=.ptr r 0/\fL st r π.a ⟨1,π.D.aq.length/4,base,last,last⟩/\r∉π.all/\∀n,cZ π.dirty n=cZ (cU [] Ls) n
 first:π.first=1+π.D.aq.length/4
 og:∀e∈π.dirty,e.1<π.D.aq.length-1-π.D.aq.length/4/\e.2.length=512
 nd:(π.dirty.map (·.1)).Nodup
section
variable {π:PI} {st st':St} {Gk:GM} {T:Nat}
def ib.keep {X:List Nat}(h:ib π st Gk T)(i:Kp X st st')(g:∀r,π.lg=.ptr r 0->r∉X):ib π st' Gk T:=by
 obtain⟨base,last,P,Ls,r,a,b,c,d,e,f⟩:=h.ex;exact⟨⟨base,last,P,Ls,r,a,b,c,d.keep i (g r c),e,f⟩,h.first,h.og,h.nd⟩
end
def SI (l:List UInt8)(i:Nat):ph (l.take i)<=ph l:=by
 have d:∀(b:List UInt8) (c:Nat),c<=b.foldl (λa b=>a*256+b.toNat) c:=by
  intro b
  induction b with
  |nil=>intro c;exact aHK _
  |cons x b f=>intro c;rw[List.foldl_cons];exact aIz uM (f _)
 have e:ph l=(l.drop i).foldl (λa b=>a*256+b.toNat) (ph (l.take i)):=by
  unfold ph;rw[<-aKr,aIA]
 rw[e];exact d _ _
def GR {d:List dN}{n:Nat}{s:iT}{e:dN}(h:e∈ix d n s):e∈d\/e=(n,s):=by
 induction d with
 |nil=>right;simpa[ix]using h
 |cons p r b=>
  simp only[ix]at h
  split at h
  .rcases aHJ.1 h with h|h
   .exact .inr h
   .exact .inl (aIH _ h)
  .rcases aHJ.1 h with h|h
   .exact .inl (by rw[h];exact aIO)
   .exact(b h).imp (aIH _) id
def Nj {Q:dN->Prop}:∀{l d:List dN},(∀e∈l,Q e)->(∀e∈d,Q e)->∀e∈sr d l,Q e:=by
 intro l
 induction l with
 |nil=>intro d _ h;exact h
 |cons x l f=>
  intro d c g;show∀e∈sr (ix d x.1 x.2) l,Q e;refine f (λe b=>c e (by simp[b])) λe b=>?_;rcases GR b with h|h
  .exact g e h
  .rw[h];exact c x wb
def Eo {Q:dN->Prop}:∀{Ls:List (List dN)} {d:List dN},(∀l∈Ls,∀e∈l,Q e)->(∀e∈d,Q e)->∀e∈cU d Ls,Q e:=by
 intro Ls
 induction Ls with
 |nil=>intro d _ h;exact h
 |cons l Ls f=>intro d b g;exact f (λc i=>b c (by simp[i])) (Nj (b l wb) g)
def zL (a:Nat)(F:List Nat)(D:aU)(c:GM)(T:Nat)(st:St)(v:CV)(st':St):Prop:=
 ∃π:PI,v=.tuple [.ptr π.p 0,I 0]/\π.a=a/\Pg π st' c/\ib π st' c T/\Kp F st st'/\(∀b∈π.all,b∈F\/st.nx<=b)/\st.nx<=π.p/\Calm π.D/\π.D.aq.length=D.aq.length/\(∃r,π.lg=.ptr r 0/\st.nx<=r)/\π.D.set=D.set
section
variable {st st':St} {a:Nat} {F:List Nat} {D:aU}
def LD (hd:cQ st a F D)(jH:eA st)(Rw:Calm D){Gk:GM}{base last top:Nat}{P:Nat->Piece}{Ls:List (List dN)}{kept:iZ}(h:lN D Gk base last top P Ls kept)(c:top<=1000000000):R 23 [.ptr a 0] st λv st'=>zL a F D Gk top st v st'\/(Kp F st st'/\∃e,v=.tuple [.bq,e]/\aji a F D.set (Wi Gk D.aq.length top) st e st'):=by
 refine bK ?_;rw[w23];have bh:=h.least;have aT:=h.ik;have te:=h.bl;have bk:=h.lt;rw[cc,af,ag,aHM xI];have Cp:=wA hd 0
 have ZR:D.read 0=(0,c9 base):=by
  have:=Rw.read (i:=0) uM;rw[h.head]at this;exact this
 refine Cp.mono ?_;intro v s1 hv;rw[ZR,aHP rfl]at hv;obtain⟨Y,_,b,rfl,gb,FY,BO⟩:=hv;rw[aD,af,aI,aD,af];have e2:∀s,aj .neq (some .int) true (I 0) (.int .i64 0) s=.ok (.bool false) s:=λs=>rfl;rw[e2,af,ag,aHM xI];have OV:=hd.keep Y wb;refine(vD OV).same ?_;have ax:aj .lss none true (I D.aq.length) (.int .i64 64) s1=.ok (.bool false) s1:=abu
 have w:=rG base;have U:Sl s1 [] (.slice b 0 512 512 1) 1 (ai (c9 base)):=.inr ⟨b,0,512,512,1,rfl,by simp[w],⟨aHK _,.inr rfl⟩,.inr ⟨wb,BO,_,_,_,gb,by simp[w],by rw[aIn,aHS (by simp[w])]⟩⟩;have aa:(ai (c9 base)).length=512*1:=by simp[w]
 obtain⟨v8,q1,q2⟩:=U.hi uM aa (h:=8) uM s1;have Sg:c9 base=[98,117,116,116,101,114,121,49]++(be 8 base++List.replicate 496 0):=by unfold c9;rw[aIq]
 have aM:(ai (c9 base)).take (8*1)=ai [98,117,116,116,101,114,121,49]:=by
  rw[Sg,bI,aJk wb]
 rw[aM]at q2;have q3:=q2.str;have ap:aR 1 (.slice b 0 512 512 1) none (some (.int .i64 8)) s1=.ok v8 s1:=q1
 have e8:(c9 base)[8]?=some (UInt8.ofNat (base/256^7%256)):=by
  rw[Sg,aIY wb,zJ];rfl
 have aN:UInt8.ofNat (base/256^7%256)=0:=by
  have:base/256^7=0:=Nat.div_eq_of_lt uM;rw[this];rfl
 have ay:cV 1 (.slice b 0 512 512 1) (.int .i64 8) s1=.ok (.ptr b 8) s1:=by
  have:=gp (size:=1) (off:=0) (cap:=512) (grow:=1) (i:=8) (len:=512) uM (.inr uM) s1 (b:=b);exact this
 have tb:(ai (c9 base))[8]?=some (.int .u8 0):=by
  unfold ai;rw[aIu,e8,aN];rfl
 have yo:aj .gtr none true (.int .u8 0) (.int .u8 127) s1=.ok (.bool false) s1:=rfl;rw[ax,af];simp only[aG,aHH,aHV,aHY,ba,af,ap,q3,ep,oL,aIS,aIb,aF,AU,ay,az,gb,ar,tb,aw,yo,ag];refine(LN OV uM).mono ?_;rintro _ s3 ⟨S,p,u,C,E,bc,rfl,RG,al⟩;have G:=OV.keep S wb;have n1:=Y.nx;have n3:=S.nx;rw[bD];refine(qA G).same ?_;have am:=U.mono S;obtain⟨ns,r1,B⟩:=am.both uM aa (l:=8) (h:=16) uM uM s3
 have aQ:((ai (c9 base)).drop (8*1)).take ((16-8)*1)=ai (be 8 base):=by
  rw[Sg,bI,aKF wb,bI,aJk (by simp[iC])]
 rw[aQ]at B;have ao:aR 1 (.slice b 0 512 512 1) (some (.int .i64 8)) (some (.int .i64 16)) s3=.ok ns s3:=r1;rw[ao,af];have aA:=vU 8 base uM;refine(qH B (by rw[iC];omega) (λi=>by have:=SI (be 8 base) i;omega)).same ?_;rw[aA];have ae:=S.fresh (Y.fresh jH);have aC:tH D ⟨1,D.aq.length/4,base,base,base⟩ P:=⟨adl,acT,aT,adp,λj hj=>h.kQ j hj⟩;refine(Al ae G Rw.dead aC uM).mono ?_;rintro _ A ⟨r,xo,Fo,Gg,rfl,Q,kV,uW,ab,hr⟩;have o1:=h.Up;have o2:=h.opened;rw[o1]at uW;rw[o2]at kV;have n6:=Q.nx;have Tz:=RG.keep Q wb;have xM:=G.keep Q wb;refine⟨afp,afp,?_⟩;have aO:aj .eql (some .int) true (I 0) (.int .i64 1) A=.ok (.bool false) A:=rfl;have aP:aj .eql (some .int) true (I 0) (.int .i64 0) A=.ok (.bool true) A:=rfl;have a3:aj .neq (some .int) true (I 0) (.int .i64 0) A=.ok (.bool false) A:=rfl;rw[aO,af];simp only[aG,aHH,aHV,aHY,ba,af,aP,aIj,dI];have ad:=RG.lt;have bf:=ad u wb;have bg:=h.ef;refine(Nd (M:=ey D.aq.length) (Ls:=Ls) Tz uW (λb c e=>by have:=ab b (.inl c);omega) (λb c e=>by have:=ab b (.inr c);omega) (λl hl e Z=>h.og l hl e Z) h.small uM (by show D.aq.length-1-D.aq.length/4<=_;omega)).mono ?_;rintro _ z ⟨rfl,O,k⟩;have a0:cU (ey D.aq.length).dirty Ls=cU [] Ls:=rfl;rw[a0]at k;have n7:=O.nx;have xO:=hd.lt
 have Dx:=xM.keep O λb c hh=>by
  have:=xO b c;have:=al u wb;simp at hh;omega
 have ZQ:=kV.keep O zS;have H:∀s,aj .neq (some .int) true (I 0) (.int .i64 0) s=.ok (.bool false) s:=λs=>rfl;simp only[cR,aIb,af,aF,aIj,aHH,aHV,ag,H];have au:=k.main
 have vN:∀{s:St} {l:List CV} {x:CV} {o:Nat} {K:St->Prop},s.m.g p=some (.cells l 158 false)->x.cK=[x]->cF x=true->o<l.length->K (St.set s p (.cells (bz l o [x]) 158 false))->mc 1 o (.ptr p 0) x s K:=by
  intro s l x o K hg h1 h2 h3 hK;simp only[mc,bj,ah,af,aH,hg,aS,h1,aHN];exact⟨⟨rfl,adb,h3⟩,hK⟩
 refine vN au rfl rfl (by decide:(1:Nat)<16) ?_;have W:=k.nd;simp only[aHX,aHJ,aIo,aJj,aJf]at W;have Kr:=k.lt p wb
 have aJ:bZ (St.set z p (.cells (bz [.ptr a 0,.bq,I (1+D.aq.length/4:Nat),I (D.aq.length-1-D.aq.length/4:Nat),.map u,.map C,I gq.root,I gq.used,I gq.head,I gq.free,I gq.root,I gq.used,I gq.head,I gq.free,.map E,.map bc] 1 [.ptr r 0]) 158 false)) p a (.ptr r 0) {ey D.aq.length with dirty:=cU [] Ls} u C E bc:=
  ⟨an _ _ _,k.dirty.mono (ak _ _ _ _ (aIG W.1.1)),k.now.mono (ak _ _ _ _ (aIG W.1.2.1)),k.idle.mono (ak _ _ _ _ (aIG W.1.2.2.1)),k.count.mono (ak _ _ _ _ (aIG W.1.2.2.2)),k.nd,k.lt,⟨rfl,rfl,rfl⟩⟩
 have X:Kp [p] z (St.set z p (.cells (bz [.ptr a 0,.bq,I (1+D.aq.length/4:Nat),I (D.aq.length-1-D.aq.length/4:Nat),.map u,.map C,I gq.root,I gq.used,I gq.head,I gq.free,I gq.root,I gq.used,I gq.head,I gq.free,.map E,.map bc] 1 [.ptr r 0]) 158 false)):=(Kp.refl _ z).set _ (.inl wb) Kr;have n8:(St.set z p (.cells (bz [.ptr a 0,.bq,I (1+D.aq.length/4:Nat),I (D.aq.length-1-D.aq.length/4:Nat),.map u,.map C,I gq.root,I gq.used,I gq.head,I gq.free,I gq.root,I gq.used,I gq.head,I gq.free,.map E,.map bc] 1 [.ptr r 0]) 158 false)).nx=z.nx:=rfl;generalize aB:St.set z p (.cells (bz [.ptr a 0,.bq,I (1+D.aq.length/4:Nat),I (D.aq.length-1-D.aq.length/4:Nat),.map u,.map C,I gq.root,I gq.used,I gq.head,I gq.free,I gq.root,I gq.used,I gq.head,I gq.free,.map E,.map bc] 1 [.ptr r 0]) 158 false)=s8 at*;rw[show St.set z p (.cells (bz [.ptr a 0,.bq,I (ey D.aq.length).first,I (ey D.aq.length).aE,.map u,.map C,I (ey D.aq.length).kept.root,I (ey D.aq.length).kept.used,I (ey D.aq.length).kept.head,I (ey D.aq.length).kept.free,I (ey D.aq.length).m.root,I (ey D.aq.length).m.used,I (ey D.aq.length).m.head,I (ey D.aq.length).m.free,.map E,.map bc] 1 [.ptr r 0]) 158 false)=s8 from aB];have N:=al;have bb:=N p wb;have a6:=N u wb;have a8:=N C wb;have a7:=N E wb;have a5:=N bc wb;have Jc:=Dx.keep X λb c hh=>by have:=xO b c;simp at hh;omega
 have yk:=ad p wb;have ZP:=ZQ.keep X zS;refine(Pm ZP).same ?_;have aY:=X.fresh (O.fresh (Q.fresh ae));have Tv:((cU [] Ls).map (·.1)).Nodup:=iW (by rw[<-lA];exact k.dirty.nd);have HV:=Eo h.og (d:=[]) wb
 have Jb:(cU [] Ls).length<=65536:=by
  have:=kT 65536 ((cU [] Ls).map (·.1)) Tv λx hx=>by
   obtain⟨e,Z,rfl⟩:=aIk.1 hx;have:=(HV e Z).1;omega
  rwa [aIx]at this
 have aL:∀b∈F,b∉[p,u,C,E,bc]:=λb c hh=>by
  have:=xO b c;have:=N b hh;omega
 refine(Ar (M:={ey D.aq.length with dirty:=cU [] Ls}) aJ Jc Rw h.waits aY aL (by show(cU [] Ls).length<=_;omega) (λe Z=>HV e Z) (by show 1+D.aq.length/4+(D.aq.length-1-D.aq.length/4)=_;omega) rfl uM c h.kQ).mono ?_;rintro a1 V (⟨rfl,oq,B,ac,F2,D2,py,KB,Mv,FQ,T,Mb,FU,N0,gV,L,uH,aW⟩|⟨oq,rfl,fo,F2,D2,KB,L,zo⟩)
 case inr=>
  have Je:aj .neq (some .int) true (I 20) (.int .i64 0) V=.ok (.bool true) V:=rfl;rw[Je,af,ag,aHP rfl];obtain⟨b',l',Jf,aK⟩:=h.aiU (λn=>rfl) zo;refine .inr ⟨?_,_,rfl,rfl,fo,F2,D2,KB,λb c=>(L b c).imp id λh=>uM,zo.dead,zo.len,b',l',top,P,Jf,kept,aK,aHK _⟩;have q0:Kp F st A:=((Y.trans S wb).trans Q wb).mono wb;have q1:=q0.trans O (by intro q f;right;simp at f;omega);have q2:=q1.trans X (by intro q f;right;simp at f;omega);exact q2.trans oq afk
 have QY:=h.settled (dirty:=cU [] Ls) (λn=>rfl) Mv FQ T uH;rw[H,af,ag,aHM xI];have hz:=QY.zero;have y:=QY.rep;rw[T]at hz y;have Xw:=y.ok.ik;have bm:D.aq.length-1-D.aq.length/4=Gk.aE:=y.aE;have I4:=oq.nx
 have J:∀b∈F2,b≠p:=λb c e=>by
  rcases(L b c).1 with h1|h1
  .have:=xO b h1;omega
  .omega
 refine(IM (m':=kept) (frs:=Gk.fr) py KB Mv.dead J hz QY.WQ (by show 1+D.aq.length/4+(D.aq.length-1-D.aq.length/4)<=_;omega) (by show 0<D.aq.length-1-D.aq.length/4;omega) y.head (λn hn=>⟨(y.ok.fr n hn).1,by show n<D.aq.length-1-D.aq.length/4;have:=(y.ok.fr n hn).2;omega⟩) y.ok.nd (y.chain.congr λn _=>rfl)).mono ?_;rintro _ dQ ⟨rfl,nK,O0,TF,TG,zt,jU⟩;have a2:=zt.lt;have Ma:=Mb.keep nK zS;have aV:=KB.lt;have a4:=Mb.1;have a9:=py.lt ac wb;have aZ:=KB.keep nK λb c hh=>J b c (by simpa using hh);have Cr:=jU O0 wb;have Z7:=jU TF wb;have Z6:=jU TG wb;rw[H,af,ag,aHM xI];refine .inl ⟨⟨p,a,.ptr B 0,ac,O0,TF,TG,F2,D2,[],kept,1+D.aq.length/4⟩,rfl,rfl,⟨_,zt,y,aZ,Mv.dead,λb c hh=>?_,rfl,rfl,rfl⟩,⟨⟨top,top,P,[],B,QY,aHK _,rfl,?_,?_,λn=>rfl⟩,by show 1+D.aq.length/4=1+D2.aq.length/4;rw[T],wb,wb⟩,?_,?_,by show st.nx<=p;omega,Mv,T,⟨B,rfl,uM⟩,aW⟩
 .have h1:=aV b c;have h2:=L b c;have h3:=J b c;simp at hh;rcases hh with hh|hh|hh|hh|hh
  .exact h3 hh
  .exact h2.2.2 hh
  .omega
  .omega
  .omega
 .have:=(QY.opened).2;rw[T]at this;rw[this]at Ma;show fL dQ B a ⟨1,D2.aq.length/4,top,top,top⟩;rw[T];exact Ma
 .unfold PI.all;simp only[aHJ,aJf];exact⟨uM,gV,uM,uM,uM,λhh=>(L B hh).2.1 rfl⟩
 .have q0:Kp F st A:=((Y.trans S wb).trans Q wb).mono wb;have q1:=q0.trans O (by intro q f;right;simp at f;omega);have q2:=q1.trans X (by intro q f;right;simp at f;omega);have q3:=q2.trans oq (by intro q f;rcases aHJ.1 f with rfl|f;right;omega;left;exact f);exact q3.trans nK (by intro q f;right;simp at f;omega)
 .intro b c;unfold PI.all at c;simp only[aHJ]at c;rcases c with c|c|c|c|c|c
  .right;omega
  .right;omega
  .right;omega
  .right;omega
  .right;omega
  .rcases(L b c).1 with h1|h1
   .left;exact h1
   .right;omega
end
