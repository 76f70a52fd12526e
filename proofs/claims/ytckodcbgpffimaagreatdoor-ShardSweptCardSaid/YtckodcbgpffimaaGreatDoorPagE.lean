import Derived.Test.YtckodcbgpffimaaGreatDoorPagD
namespace Lim
open Go
noncomputable section
set_option linter.defProp false
set_option maxRecDepth 100000
section
variable {n:Nat}{L:δ (Nat×kh)}{mb:Nat}
section
variable {Z Z':O}
def pV (l:δ Nat):δ Nat:=l.mergeSort λa b=>decide (a<=b)
def wM (l:δ Nat):(pV l).Perm l:=List.mergeSort_perm l _
def uY {l:δ Nat}:n∈pV l↔n∈l:=(wM l).mem_iff
def zL {l:δ Nat}(h:l.Nodup):(pV l).Nodup:=(wM l).nodup_iff.2 h
def zc (l:δ Nat):(pV l).length=l.length:=(wM l).length_eq
def ux {d:δ fh}(h:da d (iA L)):ko d=(L.map (·.1)).map Int.ofNat/\(∀e∈d,∃n:Nat,n∈L.map (·.1)/\e.1=I n):=by
 induction d generalizing L with
 |nil=>cases L with
  |nil=>exact⟨rfl,V⟩
  |cons p r=>simp[da,iA]at h
 |cons e d g=>cases L with
  |nil=>simp[da,iA]at h
  |cons p r=>
   have f:=h;simp only[da,iA,pw,IP,Ms]at f;obtain⟨⟨a,b⟩,c⟩:=f;obtain⟨j,i⟩:=g (L:=r) c;refine⟨?_,?_⟩
   .show(match e.1 with| .int _ a=>a|_=>0)::ko d=_;rw[a,j];rfl
   .intro x hx;rcases ip.1 hx with rfl|hx
    .exact⟨p.1,V,a⟩
    .obtain⟨n,hn,e⟩:=i x hx;exact⟨n,by simp at hn⊢;exact .inr hn,e⟩
def ni (L:δ (Nat×kh)):(iA L).map (·.1)=(L.map (·.1)).map Int.ofNat:=by unfold iA;simp
def kP {l:δ Nat}(h:(l.map Int.ofNat).Nodup):l.Nodup:=by
 induction l with
 |nil=>simp
 |cons a l b=>
  simp only[pw,me]at h;exact me.2 ⟨λhh=>h.1 (Ey hh),b h.2⟩
def IsMap.PY {b:Nat}(h:IsMap Z b (iA L))(u:L.length<=1000000)(p:∀n∈L.map (·.1),n<=1000000):∃es,da es (iA L)/\nD (Z.m.g b)=es/\pI (Z.m.g b) es/\jC es:=by
 have j:=h.nd
 have i:∀es,da es (iA L)->jC es:=λes f=>by
  obtain⟨l,k⟩:=ux f;refine⟨λe s=>?_,by rw[l,<-ni];exact j,by rw[f.len];unfold iA;simp;omega⟩;obtain⟨n,o,e⟩:=k e s;exact⟨n,e,J,by have:=p n o;omega⟩
 rcases h with⟨es,c,d,a,_,r,q⟩|⟨es,d,a,_⟩
 .exact⟨es,a,by rw[d];rfl,by rw[d];exact⟨rfl,q,r⟩,i es a⟩
 .exact⟨es,a,by rw[d];rfl,by rw[d];exact rfl,i es a⟩
def Nx :Rq0 159 [.map mb] Z λv Z'=>v=.func (.func 206) [] [.ptr Z.nx 0]/\Z'.m.g Z.nx=Φ (.cells [.map mb] 208 false)/\Kp [] Z Z'/\Z'.nx=Z.nx+1:=by
 refine bE ?_;rw[aqf];rw[bz];refine⟨rfl,?_⟩;rw[ju,af];exact⟨rfl,ay _ _,(Δ _ _).new _,rfl⟩
def DP {j:Nat}{t:TypeId}{g:Bool}(q:Z.m.g j=Φ (.cells [.map mb] t g))(h:IsMap Z mb (iA L))(o:L.length<=1000000)(p:∀n∈L.map (·.1),n<=1000000):
 Rq0 158 [.func (.func 206) [] [.ptr j 0]] Z (Made 1 3 (cR (pV (L.map (·.1)))) Z):=by
 obtain⟨e,k,w,v,u⟩:=h.PY o p
 have d:I0 158 [.func (.func 206) [] [.ptr j 0]] Z=Φ (xR 3 e Z):=by
  show HC 206 3 [.func (.func 206) [] [.ptr j 0]] Z=_;unfold HC;simp only[q];rw[w,gq ⟨rfl,v,u⟩]
 have c:e.length=L.length:=by rw[k.len];unfold iA;simp
 unfold xR at d
 by_cases i:e=[]
 .rw[gq i]at d;refine UN d ?_;have:L=[]:=by rw[i]at c;exact sS.1 c.symm
  subst this;exact⟨[],Δ _ _,.inl ⟨rfl,by simp[pV,cR],rfl⟩,V⟩
 .rw[B i]at d;refine UN d ?_
  have l:(qH (ko e)).map I=cR (pV (L.map (·.1))):=by
   rw[(ux k).1];unfold qH pV cR;rw[<-List.map_mergeSort (r:=λa b=>decide (a<=b)) (f:=Int.ofNat) (s:=λa b=>decide (a<=b)) (λa _ b _=>V)];rw[Xf];rfl
  rw[l];refine⟨[Z.nx],(Δ [] Z).new _,.inr (.inr ⟨Z.nx,e.length,rfl,TK.2 i,?_,rfl,ay _ _⟩),V⟩;rw[rT,zc,so,c];omega
def qa (d s:δ (Nat×kh)):δ (Nat×kh):=d.filter (λe=>decide (e.1∉s.map (·.1)))++s
def Ih (a b:δ (Nat×kh))(n:Nat):dm (a++b) n=(dm a n).or (dm b n):=by
 induction a with
 |nil=>rfl
 |cons p r c=>simp only[ut,dm];split;rfl;exact c
def nt {l:δ (Nat×kh)}:dm l n=ν↔n∉l.map (·.1):=by
 induction l with
 |nil=>simp[dm]
 |cons p r a=>simp only[dm,pw,ip,rt];split;simp_all;rw[a];simp_all
def O8 (d s:δ (Nat×kh))(n:Nat):dm (qa d s) n=(dm s n).or (dm d n):=by
 unfold qa;rw[Ih]
 have key:dm (d.filter (λe=>decide (e.1∉s.map (·.1)))) n=if n∈s.map (·.1)then ν else dm d n:=by
  induction d with
  |nil=>simp[dm]
  |cons p r b=>
   rw[Ep]
   by_cases h:p.1∈s.map (·.1)
   .rw[B GU,b];simp only[dm]
    by_cases a:n=p.1
    .subst a;rw[gq h,gq h]
    .rw[B a]
   .rw[gq GU];simp only[dm,b]
    by_cases a:n=p.1
    .subst a;rw[gq rfl,B h,gq rfl]
    .rw[B a,B a]
 rw[key]
 by_cases h:n∈s.map (·.1)
 .rw[gq h];cases hs:dm s n with
  |none=>exact absurd h (nt.1 hs)
  |some x=>rfl
 .rw[B h,nt.2 h];cases dm d n<;>rfl
end
end
def aX.lay (D:aX)(first:Nat)(l:δ fx):aX:=l.foldl (λD e=>(D.write (Int.ofNat (first+e.1)) e.2).2) D
def aX.IE (D:aX)(first:Nat)(l:δ fx)(e:fx):D.lay first (l++[e])=((D.lay first l).write (Int.ofNat (first+e.1)) e.2).2:=by unfold aX.lay;rw[List.foldl_append];rfl
structure ER (D:aX)(first:Nat)(l:List fx):Prop where
 calm:Calm (D.lay first l)
 En:(D.lay first l).En
 aB:(D.lay first l).aB=D.aB
 waits:(D.lay first l).waits=D.waits++l.map λe=>(first+e.1,e.2)
 low:∀j,j<first->(D.lay first l).cur j=D.cur j
 other:∀n,n∉l.map (·.1)->(D.lay first l).cur (first+n)=D.cur (first+n)
 at_:(l.map (·.1)).Nodup->∀e∈l,(D.lay first l).cur (first+e.1)=e.2
 set:(D.lay first l).set=D.set
def ER.nil {D:aX}{first:Nat}(h:Calm D)(b:D.En):ER D first []:=⟨h,b,rfl,by simp[aX.lay],λ_ _=>rfl,λ_ _=>rfl,λ_ e c=>(by cases c),rfl⟩
def ER.snoc {D:aX}{first:Nat}{l:δ fx}{e:fx}(hi:ER D first l)(q:first+e.1<D.aB.length)(z:e.2.length=512)(k:((D.lay first l).write ((first+e.1:Nat):Int) e.2).1=0):ER D first (l++[e]):=by
 have b:D.lay first (l++[e])=((D.lay first l).write ((first+e.1:Nat):Int) e.2).2:=D.IE first l e
 rcases hi.calm.write (i:=first+e.1) (s:=e.2) (by rw[hi.aB];exact q) z hi.En with⟨m,y,w,v,u,f,r⟩|⟨m,_⟩
 .refine⟨by rw[b];exact y,by rw[b];exact v,by rw[b,w];exact hi.aB,by rw[b,u,hi.waits];simp,λj o=>?_,λn g=>?_,λd x c=>?_,by rw[b,r];exact hi.set⟩
  .rw[b,f,B J];exact hi.low j o
  .rw[b,f,B (λhh=>g (by simp;exact .inr J))];exact hi.other n λhh=>g (by simp at hh⊢;exact .inl hh)
  .rw[b,f];rw[wd,zy]at d;rcases lh.1 c with c|c
   .have C:=d.2.2 x.1 (Ey c) e.1 V;rw[B J];exact hi.at_ d.1 x c
   .have:x=e:=by simpa using c
    subst this;rw[gq rfl]
 .rw[m]at k;cases k
def dS (d:δ fx)(b:δ Nat):δ fx:=b.map λn=>(n,(dm d n).getD [])
def oH (d:δ fx)(ks:δ Nat):(dS d ks).map (·.1)=ks:=by unfold dS;rw[Xf];exact List.map_id ks
def Ig {d:δ fx}{n:Nat}{s:kh}(h:dm d n=Φ s):(n,s)∈d:=by
 induction d with
 |nil=>cases h
 |cons p r b=>
  simp only[dm]at h
  split at h
  .rename_i hn;cases h;subst hn;exact zt
  .exact EQ _ (b h)
section
variable {Z Z':O} {p a:Nat} {lg:K} {M:cA} {bd bn bi bc:Nat} {F:δ Nat} {D:aX}
def UP (p a:Nat)(M:cA)(bn bi bc:Nat)(F:δ Nat)(D:aX)(base count:Nat)(P:Nat->Piece)(Z:O)(v:K)(Z':O):Prop:=
 v=I 0/\Kp (p::F) Z Z'/\∃r bd' F' D',dx Z' p a (.ptr r 0) {M with cC:=[]} bd' bn bi bc/\dz Z' a F' D'/\Calm D'/\D'.waits=[]/\D'.aB.length=D.aB.length/\gR Z' r a (RingM.opened 1 count base P)/\Z.nx<=r/\Z.nx<=bd'/\r≠bd'/\(∀b∈F',(b∈F\/Z.nx<=b)/\b≠r/\b≠bd')/\
  (∀j,D'.cur j=if j=0 then dZ base else if j<M.first then D.cur j else (dm M.cC (j-M.first)).getD (D.cur j))/\D'.set=D.set
structure aeK (D:aX)(first:Nat)(cC:List fx)(base:Nat)(D':aX):Prop where
 dead:D'.dead=true
 waits:D'.waits=[]
 len:D'.aB.length=D.aB.length
 cur:(∀j,D'.cur j=D.cur j\/∃n s,j=first+n/\dm cC n=some s/\D'.cur j=s)\/((D'.cur 0=dZ base\/D'.cur 0=D.cur 0)/\∀j,j≠0->D'.cur j=if j<first then D.cur j else (dm cC (j-first)).getD (D.cur j))
def axV (a:Nat)(F:δ Nat)(c:Bool)(S:aX->Prop)(Z:O)(v:K)(Z':O):Prop:=v=I 20/\c=θ/\∃F' D',dz Z' a F' D'/\(∀b∈F',b∈F\/Z.nx<=b)/\S D'
def KZ (h:dx Z p a lg M bd bn bi bc)(hd:dz Z a F D)(hc:Calm D)(hw:D.waits=[])(lR:dV Z)(hF:∀b∈F,b∉[p,bd,bn,bi,bc])(Mo:M.cC.length<=1000000)(Xy:∀e∈M.cC,e.1<M.aO/\e.2.length=512)(Ti:M.first+M.aO=D.aB.length)(Gv:M.first=1+D.aB.length/4)(h4:4<=D.aB.length)
 {base:Nat} (d:base<=1000000000) {P:Nat->Piece} (hP:∀j,j<D.aB.length/4->D.cur (1+j)=(P j).bX/\(P j).ok):
 Rq0 114 [.ptr p 0,I base] Z λv Z'=>UP p a M bn bi bc F D base (D.aB.length/4) P Z v Z'\/(Kp F Z Z'/\axV a F D.set (aeK D M.first M.cC base) Z v Z'):=by
 refine bE ?_;rw[aqN];have a0:=(show D.aB.length<=65536 from by obtain⟨_,_,_,_,_,_,_,h⟩:=hd;exact h.size);rw[bU];simp only[fP,rr,h.main,kc,io];refine Nx.mono ?_;rintro _ dw ⟨rfl,mW,rl,aY⟩;have an:=h.keep rl V;refine(DP mW an.cC Mo (λn S=>?_)).mono ?_
 .obtain⟨e,he,rfl⟩:=lm.1 S;have:=(Xy e he).1;omega
 intro x ew IW;have rk:=IW.kp;have L:=rl.trans rk V;have XF:=an.keep rk V;have aS:=hd.keep L V;have YH:=L.nx;have aT:=hd.lt
 have SJ:Sl ew (p::F) x 1 (cR (pV (M.cC.map (·.1)))):=IW.sl _ λb d=>by
  rcases ip.1 d with rfl|d
  .have:=h.lt b V;omega
  .have:=aT b d;omega
 have be:(pV (M.cC.map (·.1))).length=M.cC.length:=by rw[zc,so]
 have ZH:=kP (by rw[<-ni];exact h.cC.nd);have Xs:=zL ZH
 have Tb:∀n∈pV (M.cC.map (·.1)),∃s,dm M.cC n=Φ s/\n<M.aO/\s.length=512:=λn S=>by
  rw[uY]at S;cases C:dm M.cC n with
  |none=>exact absurd S (nt.1 C)
  |some s=>have:=Xy _ (Ig C);exact⟨s,rfl,this.1,this.2⟩
 generalize oL:pV (M.cC.map (·.1))=ks at*;have hlen:=SJ.len ks.length V J ew;rw[hlen,af];simp only[ke];have aF:D.En:=afa
 refine bD (λfu vs s=>∃i F1,fu+i=ks.length/\vs=[.ptr p 0,I base,x,I ks.length,I i]/\Kp F ew s/\dz s a F1 (D.lay M.first (dS M.cC (ks.take i)))/\(∀b∈F1,b∈F\/ew.nx<=b)/\ER D M.first (dS M.cC (ks.take i))) ?_ (n:=ks.length) ⟨0,F,rfl,rfl,Δ _ _,aS,lk,.nil hc aF⟩;rintro fu vs s k ⟨i,F1,hi,rfl,W,ZK,Ez,u⟩ next;simp only[ke];rw[dd,af,ag];have Ae:=XF.keep W λb d hh=>hF b hh d;have Me:=Ae.main;have uB:=W.nx;have Xv:=W.fresh (L.fresh lR)
 have Gl:∀b∈[p,bd,bn,bi,bc],b∉F1:=λb d hh=>by
  rcases Ez b hh with c|c
  .exact hF b c d
  .have:=h.lt b d;omega
 by_cases tK:i<ks.length
 .rw[jp tK,gq rfl];refine((SJ.fc (Y:=F) (by intro q hq;left;simp[hq])).mono W).idx (i:=i) afJ _ ?_;have e9:(cR ks)[i]'(by simpa using tK)=I ks[i]:=by simp[cR]
  rw[e9];obtain⟨f,C,a4,lP⟩:=Tb ks[i] (mp tK);have BQ:=IsMap.lookup Ae.cC (.agg (zr 512)) false ks[i] s rfl;rw[B tW,xS,C]at BQ;simp only[AR,Jd]at BQ;simp only[rr,Me,kc,io,BQ];have Gy:(al f).length=512:=by simpa using lP
  refine pE Gy (bK _) ?_;have k4:=(Δ [] s).page (al f);have g4:(O.set (O.new s (ϛ (zr 512))) s.nx (ϛ (al f))).m.g s.nx=Φ (ϛ (al f)):=ao ..;have n4:(O.set (O.new s (ϛ (zr 512))) s.nx (ϛ (al f))).nx=s.nx+1:=rfl;generalize O.set (O.new s (ϛ (zr 512))) s.nx (ϛ (al f))=s4 at*;have aD:=Ae.keep k4 V;have az:=ZK.keep k4 V;have aw:=aD.main;have G9:cD 512 1 (.ptr s.nx 0) ν ν s4=.ok (.slice s.nx 0 512 512 0) s4:=rfl;have e1:R .add ν false (I M.first) (I ks[i]) s4=.ok (ζ (M.first+ks[i])) s4:=EW
  have aM:=ZK.lt;have aW:Sl s4 F1 (.slice s.nx 0 512 512 0) 1 (al f):=.inr ⟨s.nx,0,512,512,0,rfl,by simp[lP],⟨hI _,.inl rfl⟩,.inr ⟨λhh=>by have:=aM _ hh;omega,J,_,_,_,g4,J,QN⟩⟩;simp only[aZ,aw,kc,io,e1,rb,G9];have bb:(dS M.cC (ks.take i)).length<=1000000:=by unfold dS;simp;omega
  refine(xH az (i:=((M.first+ks[i]:Nat):Int)) (k4.fresh Xv) (by rw[u.waits,hw];simp;omega) aW lP).mono ?_;rintro _ s5 ⟨rfl,k5,F2,ae,Dr⟩
  have ad:dS M.cC (ks.take i)++[(ks[i],f)]=dS M.cC (ks.take (i+1)):=by
   rw[su tK];unfold dS;rw[wd];simp[C]
  rcases u.calm.write (i:=M.first+ks[i]) (s:=f) (by rw[u.aB];omega) lP u.En with⟨w1,_⟩|⟨w1,w2,w3⟩
  .rw[w1];have e2:R .neq ψ true μ μ s5=.ok Θ s5:=rfl;refine⟨⟨gt,gt,gt⟩,gt,?_⟩;simp only[e2,ll,ii,fV i J];refine next (fu-1) _ _ J ⟨i+1,F2,J,rfl,?_,?_,λb d=>?_,?_⟩
   .exact(W.trans k4 V).trans k5 λq hq=>Ez q hq
   .rw[<-ad,aX.IE];exact ae
   .rcases Dr b d with c|c
    .exact Ez b c
    .right;omega
   .rw[<-ad];exact u.snoc (by show M.first+ks[i]<_;omega) lP w1
  .rw[w1];have e2:R .neq ψ true (I 20) μ s5=.ok ι s5:=rfl;refine⟨⟨gt,gt,gt⟩,gt,?_⟩;simp only[e2,xl,ix];rw[u.set]at w2;rw[u.aB,u.waits,hw,ow]at w3;refine .inr ⟨?_,rfl,w2,F2,_,ae,λb d=>?_,w3.dead,w3.waits,w3.len,.inl λj=>?_⟩
   .exact(((L.mono V).trans W λq hq=>.inl QU).trans k4 V).trans k5 λq hq=>(Ez q hq).imp (λh=>QO) λh=>J
   .rcases Dr b d with c|c
    .exact(Ez b c).imp id λh=>J
    .right;omega
   .rcases w3.cur j with c|⟨w,c,N,h3⟩
    .left;rw[c,pQ hw]
    .right;rcases lh.1 c with h4|h4
     .obtain⟨e,he,rfl⟩:=lm.1 h4;unfold dS at he;obtain⟨n,S,rfl⟩:=lm.1 he;obtain⟨s',q1,_⟩:=Tb n (ww S);exact⟨n,s',N.symm,q1,adp⟩
     .have:w=(M.first+ks[i],f):=by simpa using h4
      subst this;exact⟨ks[i],f,N.symm,C,h3⟩
 .rw[jo tK,B tW];have Kc:ks.take i=ks:=lw J;rw[Kc]at ZK u;have Q1:Kp F Z s:=(L.mono V).trans W λq hq=>.inl QU;have aa:(D.lay M.first (dS M.cC ks)).waits=(dS M.cC ks).map λe=>(M.first+e.1,e.2):=by rw[u.waits,hw,ow]
  have a6:(dS M.cC ks).length=ks.length:=by unfold dS;simp
  generalize y:D.lay M.first (dS M.cC ks)=D1 at*;simp only[rr,Me,io];refine(yC ZK (by rw[aa];simp;omega)).mono ?_;rintro _ s6 ⟨rfl,k6,F2,Hg,Dr⟩;have Ta:=u.aB;rw[y]at Ta;have e2:∀s,R .neq ψ true μ μ s=.ok Θ s:=λs=>rfl;have am:∀s,R .neq ψ true (I 20) μ s=.ok ι s:=λs=>rfl;have ak:=Ae.keep k6 Gl;have av:=ak.main;have Xw:=k6.fresh Xv;have n6:=k6.nx
  have XG:∀b∈F2,b∈F\/ew.nx<=b:=λb d=>by
   rcases Dr b d with c|c
   .exact Ez b c
   .right;omega
  have aN:∀b∈[p,bd,bn,bi,bc],b∉F2:=λb d hh=>by
   rcases XG b hh with c|c
   .exact hF b c d
   .have:=h.lt b d;omega
  have Q2:=Q1.trans k6 λq hq=>(Ez q hq).imp (λh=>QO) λh=>J
  have jh:=u.set;rw[y]at jh;have ac:=u.calm.flush u.En;rw[y]at ac;rcases ac with⟨f1,f2,Q,f4,f5,f6⟩|⟨f1,f2,Q⟩
  case inr=>
   rw[f1];simp only[am,xl,ix];rw[jh]at f2;rw[Ta,aa]at Q;refine .inr ⟨Q2,rfl,f2,F2,_,Hg,λb d=>(XG b d).imp id λh=>J,Q.dead,Q.waits,Q.len,.inl λj=>?_⟩;rcases Q.cur j with c|⟨w,c,N,h3⟩
   .left;rw[c,pQ hw]
   .right;obtain⟨e,he,rfl⟩:=lm.1 c;unfold dS at he;obtain⟨n,S,rfl⟩:=lm.1 he;obtain⟨s',q1,_⟩:=Tb n S;exact⟨n,s',N.symm,q1,adp⟩
  generalize a9:D1.flush.2=D2 at*;rw[f1];simp only[e2,ll,ii,av,lW,io];refine(NR Xw Hg (by rw[f4];simp) (base:=base) J).mono ?_;rintro _ s7 ⟨rfl,k7,F3,Hf,Dq⟩;have aj:=ak.keep k7 aN;have ab:=aj.main;have aG:=k7.fresh Xw;have n7:=k7.nx
  have PV:∀b∈F3,b∈F\/ew.nx<=b:=λb d=>by
   rcases Dq b d with c|c
   .exact XG b c
   .right;omega
  have ZN:∀j,j≠0->D2.cur j=if j<M.first then D.cur j else (dm M.cC (j-M.first)).getD (D.cur j):=by
   intro j z;rw[f5]
   by_cases X:j<M.first
   .rw[gq X];have:=u.low j X
    rwa [y]at this
   .rw[B X];obtain⟨n,rfl⟩:∃n,j=M.first+n:=⟨j-M.first,J⟩;rw[aMZ];cases C:dm M.cC n with
    |none=>
     have:=u.other n (by rw[oH,<-oL,uY];exact nt.1 C)
     rwa [y]at this
    |some s'=>
     have lA:(n,s')∈dS M.cC ks:=by
      unfold dS;refine lm.2 ⟨n,?_,by rw[C];rfl⟩;rw[<-oL,uY];exact lm.2 ⟨_,Ig C,rfl⟩
     have:=u.at_ (by rw[oH];exact Xs) _ lA;rw[y]at this;exact this
  have aQ:D2.cur 0=D.cur 0:=by
   rw[f5];have:=u.low 0 J
   rwa [y]at this
  have Q3:=Q2.trans k7 λq hq=>(XG q hq).imp (λh=>QO) λh=>J
  rcases f2.head f4 (by rw[Q,Ta];omega) base with⟨g1,g2,g3,g4,g5,g6⟩|⟨g1,g2,g3⟩
  case inr=>
   rw[g1];simp only[am,xl,ix];refine .inr ⟨Q3,rfl,by rw[<-jh,<-f6];exact g2,F3,_,Hf,λb d=>(PV b d).imp id λh=>J,g3.dead,g3.waits,by rw[g3.len,Q,Ta],.inr ⟨?_,λj z=>?_⟩⟩
   .rcases g3.cur 0 with c|⟨w,c,N,h3⟩
    .right;rw[c,<-pQ f4,aQ]
    .have:w=(0,dZ base):=by simpa using c
     subst this;left;exact h3
   .rcases g3.cur j with c|⟨w,c,N,h3⟩
    .rw[c,<-pQ f4,ZN j z]
    .have:w=(0,dZ base):=by simpa using c
     subst this;exact absurd N.symm z
  have vZ:∀j,(D2.head base).2.cur j=if j=0 then dZ base else if j<M.first then D.cur j else (dm M.cC (j-M.first)).getD (D.cur j):=by
   intro j;rw[g5]
   by_cases z:j=0
   .rw[gq z,gq z]
   .rw[B z,B z];exact ZN j z
  generalize a8:(D2.head base).2=D3 at*;rw[g1];have PM:D3.aB.length=D.aB.length:=by rw[g3,Q,Ta]
  simp only[e2,ll,ii,aZ,ab,lW,io];refine(vf Hf).same ?_;rw[PM]
  have aC:xt D3 ⟨1,D.aB.length/4,base,base,base⟩ P:=⟨by show 0<D.aB.length/4;omega,by show 1+D.aB.length/4<=_;omega,J,by show base<=_;omega,λj z=>by
   have z:j<D.aB.length/4:=z;show D3.cur (1+j)=_/\_;rw[vZ,B J,gq J];exact hP j z⟩
  refine(HQ aG Hf g2.dead aC d).mono ?_;rintro _ G ⟨r,xo,Fo,Gg,rfl,k9,uz,BK,a7,hr⟩;have n9:=k9.nx;have ai:=aj.keep k9 V;have ay:=Hf.keep k9 V;have a5:=ai.main;rw[aE,af,aL,aE,af,aL,aL,aE,af];refine⟨⟨⟨by rw[ab];exact rfl,gt⟩,gt,gt⟩,gt,?_⟩;rw[e2,af,ag,B tW,og,aP];have kA:Kp [] G (O.new G (.map [] 0)):=(Δ [] G).new _;have mA:=ef.new G;have nA:(O.new G (.map [] 0)).nx=G.nx+1:=rfl;generalize O.new G (.map [] 0)=sA at*;have H:=ai.keep kA V;have ax:=ay.keep kA V;have aq:=H.main
  have ap:∀{s:O} {l:δ K} {x:K} {o:Nat} {Kq0:O->Prop},s.m.g p=Φ (ϰ l)->x.bY=[x]->cI x=θ->o<l.length->Kq0 (O.set s p (ϰ (bC l o [x])))->sq 1 o (.ptr p 0) x s Kq0:=by
   intro s l x o Kq0 C c N h3 hK;simp only[sq,bk,ah,af,xz,C,c,oa];exact⟨⟨rfl,by simp[N],h3⟩,hK⟩
  refine ap aq rfl rfl (by decide:(1:Nat)<16) ?_;refine ap (ao ..) rfl rfl (by exact(by decide:(4:Nat)<16)) ?_;rw[set_set];have mL:bC (bC [.ptr a 0,lg,I M.first,I M.aO,.map bd,.map bn,I M.kept.root,I M.kept.used,I M.kept.head,I M.kept.free,I M.m.root,I M.m.used,I M.m.head,I M.m.free,.map bi,.map bc] 1 [.ptr r 0]) 4 [.map G.nx]=[.ptr a 0,.ptr r 0,I M.first,I M.aO,.map G.nx,.map bn,I M.kept.root,I M.kept.used,I M.kept.head,I M.kept.free,I M.m.root,I M.m.used,I M.m.head,I M.m.free,.map bi,.map bc]:=rfl;rw[mL];have aI:=H.lt p V;have T:=h.nd;simp only[me,ip,wn,GZ]at T;have kB:Kp [p] sA (O.set sA p (ϰ [.ptr a 0,.ptr r 0,I M.first,I M.aO,.map G.nx,.map bn,I M.kept.root,I M.kept.used,I M.kept.head,I M.kept.free,I M.m.root,I M.m.used,I M.m.head,I M.m.free,.map bi,.map bc])):=(Δ _ sA).set _ (.inl V) aI;have Z2:=Hf.lt
  have aH:∀b∈F3,b∉[p]:=λb d hh=>by
   have hh:b=p:=by simpa using hh
   subst hh;rcases PV b d with c|c
   .exact hF b c V
   .have:=h.lt b V;omega
  have NI:=h.lt;have a3:=NI p V;have PJ:=NI bn V;have a2:=NI bi V;have a1:=NI bc V;have ba:=uz.1;refine .inl ⟨rfl,?_,r,G.nx,F3,D3,⟨ao ..,.inl (mA.mono (ar _ _ _ _ J)),H.now.mono (ar _ _ _ _ (ny T.1.2.1)),H.idle.mono (ar _ _ _ _ (ny T.1.2.2.1)),H.count.mono (ar _ _ _ _ (ny T.1.2.2.2)),?_,?_,⟨rfl,rfl,rfl⟩⟩,ax.keep kB aH,g2,g4,PM,?_,J,J,J,λb d=>⟨(PV b d).imp id λh=>J,?_,?_⟩,vZ,g6.trans (f6.trans jh)⟩
  .exact(((Q3.trans k9 V).trans kA V).mono λq hq=>.inl (EQ _ hq)).trans kB λq hq=>.inl (by simp at hq;simp[hq])
  .simp only[me,ip,wn,GZ];exact⟨⟨J,T.1.2.1,T.1.2.2.1,T.1.2.2.2⟩,⟨J,J,J⟩,T.2.2⟩
  .intro b d;simp at d;show b<sA.nx;omega
  .exact(uz.keep kA V).keep kB xI
  .have:=Z2 b d;omega
  .have:=Z2 b d;omega
end
def mg (first a:Nat)(cC:δ fx)(kept:mQ)(fr:δ Nat):cA:=⟨first,a,cC,[],kept,kept,fr,[]⟩
def iK {first a:Nat}{cC:δ fx}{kept:mQ}{fr:δ Nat}(D:aX)(n:Nat):(mg first a cC kept fr).get D n=(dm cC n).getD (D.cur (first+n)):=by
 unfold mg cA.get;simp only[dm];cases dm cC n<;>rfl
def tT.congr {M M':cA}{D D':aX}{G:GM}(h:tT M D G)(e:∀n,n<M.aO->M'.get D' n=M.get D n)(c:M'.aO=M.aO)(a:M'.m=M.m)(g:M'.idle=M.idle)(o:M'.now=M.now)(d:M'.count=M.count)(k:M'.first=M.first)(j:D'.aB.length=D.aB.length):tT M' D' G:=by
 have f:=h.ok.jT;refine⟨c.trans h.aO,by rw[a];exact h.used,by rw[a];exact h.root,by rw[a];exact h.head,by rw[a];exact h.free,by rw[g];exact h.idle,by rw[g];exact h.Aa,h.ok,by rw[k,c,j];exact h.fits,λn b=>?_,λn b=>?_,?_,by rw[o,d];exact h.count,by rw[d];exact h.uJ,by rw[d];exact h.wo,d.trans h.eu⟩
 .rw[e n (by rw[h.aO];omega)];exact h.len n b
 .rw[e n (by rw[h.aO];have:=b.2.1;omega)];exact h.cont n b
 .have key:∀l:δ Nat,(∀n∈l,n<M.aO)->Vr M D l->Vr M' D' l:=by
   intro l
   induction l with
   |nil=>intro _ _;trivial
   |cons n r i=>intro c a;exact⟨(e n (c n V)).trans a.1,i (λm f=>c m (by simp[f])) a.2⟩
  exact key _ (λn b=>by rw[h.aO];have:=(h.ok.fr n b).2;omega) h.chain
structure mS (D:aX)(Gk:GM)(base last:Nat)(P:Nat->Piece)(Ls:List (List fx))(kept:mQ):Prop where
 calm:Calm D
 waits:D.waits=[]
 least:64<=D.aB.length
 jT:D.aB.length<=65536
 head:D.cur 0=dZ base
 oN:∀j,j<D.aB.length/4->D.cur (1+j)=(P j).bX/\(P j).ok
 laid:jX P (D.aB.length/4) base (Ls.map eR) last
 le:∀j,j<D.aB.length/4->(P j).n<=last
 room:last<=base+D.aB.length/4
 rq:∀l∈Ls,∀e∈l,e.1<D.aB.length-1-D.aB.length/4/\e.2.length=512
 small:∀l∈Ls,(eR l).length<=1000000
 rep:tT (mg (1+D.aB.length/4) (D.aB.length-1-D.aB.length/4) (eU [] Ls) kept Gk.fr) D Gk
 zero:(mg (1+D.aB.length/4) (D.aB.length-1-D.aB.length/4) (eU [] Ls) kept Gk.fr).get D 0=cB kept
 root:kept.root<2147483648
def jX.count {P:Nat->Piece}{count:Nat}:∀{a:δ (δ Γ)} {s e:Nat},jX P count s a e->s+a.length<=e:=by
 intro a
 induction a with
 |nil=>intro s e h;have h:e=s:=h;simp[h]
 |cons r a b=>intro s e h;have:=b h.2;have:=l7 r.length;simp;omega
def mS.opened {D:aX}{Gk:GM}{base last:Nat}{P:Nat->Piece}{Ls:δ (δ fx)}{kept:mQ}(h:mS D Gk base last P Ls kept):jq P (D.aB.length/4) (D.aB.length/4) base [] [] base=(Ls.map eR,last)/\RingM.opened 1 (D.aB.length/4) base P=⟨1,D.aB.length/4,base,last,last⟩:=by
 have a:0<D.aB.length/4:=by have:=h.least;omega
 have b:(P ((last+1)%(D.aB.length/4))).n≠last+1:=by
  have:=h.le ((last+1)%(D.aB.length/4)) (NO _ a);omega
 have e:=RK h.laid b (D.aB.length/4) [] h.room;rw[ow]at e;refine⟨e,?_⟩;unfold RingM.opened;rw[e,E5 h.laid a h.le]
structure qX (D:aX)(Gk:GM)(base last top:Nat)(P:Nat->Piece)(Ls:List (List fx))(kept:mQ):Prop where
 waits:D.waits=[]
 least:64<=D.aB.length
 jT:D.aB.length<=65536
 head:D.cur 0=dZ base
 oN:∀j,j<D.aB.length/4->D.cur (1+j)=(P j).bX/\(P j).ok
 ahq:jq P (D.aB.length/4) (D.aB.length/4) base [] [] base=(Ls.map eR,last)
 arb:lu P (D.aB.length/4) base (D.aB.length/4)=top
 le:∀j,j<D.aB.length/4->(P j).n<=top
 bl:base<=last
 lt:last<=top
 eu:Ls.length<=100000
 rq:∀l∈Ls,∀e∈l,e.1<D.aB.length-1-D.aB.length/4/\e.2.length=512
 small:∀l∈Ls,(eR l).length<=1000000
 rep:tT (mg (1+D.aB.length/4) (D.aB.length-1-D.aB.length/4) (eU [] Ls) kept Gk.fr) D Gk
 zero:(mg (1+D.aB.length/4) (D.aB.length-1-D.aB.length/4) (eU [] Ls) kept Gk.fr).get D 0=cB kept
 root:kept.root<2147483648
def mS.toK {D:aX}{Gk:GM}{base last:Nat}{P:Nat->Piece}{Ls:δ (δ fx)}{kept:mQ}(h:mS D Gk base last P Ls kept):qX D Gk base last last P Ls kept:=by
 have h1:=h.opened.1;have h2:=h.laid.count;rw[so]at h2;have b:=h.room;have a:=h.jT;exact⟨h.waits,h.least,h.jT,h.head,h.oN,h1,E5 h.laid (by have:=h.least;omega) h.le,h.le,h.laid.le.1,hI _,J,h.rq,h.small,h.rep,h.zero,h.root⟩
section
variable {D D':aX} {Gk:GM} {base last top:Nat} {P:Nat->Piece} {Ls:δ (δ fx)} {kept:mQ} {cC:δ fx}
def qX.none (h:qX D Gk base last top P Ls kept):jq P (D.aB.length/4) (D.aB.length/4) top [] [] top=([],top)/\lu P (D.aB.length/4) top (D.aB.length/4)=top:=by
 have a:=h.least;have hn:=h.le ((top+1)%(D.aB.length/4)) (NO _ J);constructor
 .obtain⟨f,hf⟩:∃f,D.aB.length/4=f+1:=⟨D.aB.length/4-1,J⟩
  have e:jq P (D.aB.length/4) (f+1) top [] [] top=([],top):=by
   rw[jq,B J]
  rw[<-hf]at e;exact e
 .refine Nat.le_antisymm (AA P _ top top (hI _) h.le _ (hI _)) ?_;exact rE P _ top 0 _ (sw _)
def qX.settled (h:qX D Gk base last top P Ls kept)(f:∀n,dm cC n=dm (eU [] Ls) n)(g:Calm D')(e:D'.waits=[])(a:D'.aB.length=D.aB.length)
 (b:∀j,D'.cur j=if j=0 then dZ top else if j<1+D.aB.length/4 then D.cur j else (dm cC (j-(1+D.aB.length/4))).getD (D.cur j)):mS D' Gk top top P [] kept:=by
 have d:∀n,(mg (1+D.aB.length/4) (D.aB.length-1-D.aB.length/4) [] kept Gk.fr).get D' n=(mg (1+D.aB.length/4) (D.aB.length-1-D.aB.length/4) (eU [] Ls) kept Gk.fr).get D n:=λn=>by
  rw[iK,iK,b,B J,B J,aMZ,f];rfl
 refine⟨g,e,by rw[a];exact h.least,by rw[a];exact h.jT,by rw[b,gq rfl],λj c=>?_,rfl,by rw[a];exact h.le,J,V,V,?_,?_,h.root⟩
 .rw[a]at c;rw[b,B J,gq J];exact h.oN j c
 .rw[a];exact h.rep.congr (λn _=>d n) rfl rfl rfl rfl rfl rfl a
 .rw[a];exact(d 0).trans h.zero
def qX.to (h:qX D Gk base last top P Ls kept)(d:D'.waits=[])(a:D'.aB.length=D.aB.length)(g:D'.cur 0=D.cur 0)(f:∀j,j<D.aB.length/4->D'.cur (1+j)=D.cur (1+j))
 (e:∀n,dm (eU [] Ls) n=Option.none->D'.cur (1+D.aB.length/4+n)=D.cur (1+D.aB.length/4+n)):qX D' Gk base last top P Ls kept:=by
 have c:∀n,(mg (1+D.aB.length/4) (D.aB.length-1-D.aB.length/4) (eU [] Ls) kept Gk.fr).get D' n=(mg (1+D.aB.length/4) (D.aB.length-1-D.aB.length/4) (eU [] Ls) kept Gk.fr).get D n:=λn=>by
  rw[iK,iK];cases hp:dm (eU [] Ls) n with
  |none=>rw[e n hp]
  |some s=>rfl
 refine⟨d,by rw[a];exact h.least,by rw[a];exact h.jT,g.trans h.head,λj b=>?_,by rw[a];exact h.ahq,by rw[a];exact h.arb,by rw[a];exact h.le,h.bl,h.lt,h.eu,by rw[a];exact h.rq,h.small,?_,?_,h.root⟩
 .rw[a]at b;rw[f j b];exact h.oN j b
 .rw[a];exact h.rep.congr (λn _=>c n) rfl rfl rfl rfl rfl rfl a
 .rw[a];exact(c 0).trans h.zero
def qX.axD (h:qX D Gk base last top P Ls kept)(f:∀n,dm cC n=dm (eU [] Ls) n)(a:aeK D (1+D.aB.length/4) cC top D'):∃base' last' l,qX D' Gk base' last' top P l kept:=by
 rcases a.cur with c|⟨o,c⟩
 .refine⟨_,_,_,h.to a.waits a.len ?_ (λj d=>?_) λn e=>?_⟩
  .rcases c 0 with b|⟨n,s,b,_⟩
   .exact b
   .omega
  .rcases c (1+j)with b|⟨n,s,b,_⟩
   .exact b
   .omega
  .rcases c (1+D.aB.length/4+n)with b|⟨m,s,b,g,_⟩
   .exact b
   .have:m=n:=by omega
    subst this;rw[f,e]at g;cases g
 .have b:∀j,j<D.aB.length/4->D'.cur (1+j)=D.cur (1+j):=λj d=>by rw[c _ J,gq J]
  rcases o with h0|h0
  .have hg:∀n,(mg (1+D.aB.length/4) (D.aB.length-1-D.aB.length/4) [] kept Gk.fr).get D' n=(mg (1+D.aB.length/4) (D.aB.length-1-D.aB.length/4) (eU [] Ls) kept Gk.fr).get D n:=λn=>by
    rw[iK,iK,c _ J,B J,aMZ,f];rfl
   obtain⟨k,i⟩:=h.none;refine⟨top,top,[],a.waits,by rw[a.len];exact h.least,by rw[a.len];exact h.jT,h0,λj d=>?_,by rw[a.len];exact k,by rw[a.len];exact i,by rw[a.len];exact h.le,hI _,hI _,V,V,V,?_,?_,h.root⟩
   .rw[a.len]at d;rw[b j d];exact h.oN j d
   .rw[a.len];exact h.rep.congr (λn _=>hg n) rfl rfl rfl rfl rfl rfl a.len
   .rw[a.len];exact(hg 0).trans h.zero
  .refine⟨_,_,_,h.to a.waits a.len h0 b λn e=>?_⟩;rw[c _ J,B J,aMZ,f,e];rfl
end
def aeJ (Gk:GM)(N T:Nat)(D:aX):Prop:=D.dead=θ/\D.aB.length=N/\∃base last top P Ls kept,qX D Gk base last top P Ls kept/\top<=T
structure ja (π:PI)(Z:O)(Gk:GM)(T:Nat):Prop where
 ex:∃base last P Ls r,mS π.D Gk base last P Ls π.kept/\last<=T/\π.lg=.ptr r 0/\gR Z r π.a ⟨1,π.D.aB.length/4,base,last,last⟩/\r∉π.all/\∀n,dm π.cC n=dm (eU [] Ls) n
 first:π.first=1+π.D.aB.length/4
 rq:∀e∈π.cC,e.1<π.D.aB.length-1-π.D.aB.length/4/\e.2.length=512
 nd:(π.cC.map (·.1)).Nodup
section
variable {π:PI} {Z Z':O} {Gk:GM} {T:Nat}
def ja.keep {X:δ Nat}(h:ja π Z Gk T)(i:Kp X Z Z')(g:∀r,π.lg=.ptr r 0->r∉X):ja π Z' Gk T:=by
 obtain⟨base,last,P,Ls,r,a,b,c,d,e,f⟩:=h.ex;exact⟨⟨base,last,P,Ls,r,a,b,c,d.keep i (g r c),e,f⟩,h.first,h.rq,h.nd⟩
end
def RR {d:δ fx}{n:Nat}{s:kh}{e:fx}(h:e∈jr d n s):e∈d\/e=(n,s):=by
 induction d with
 |nil=>right;simpa[jr]using h
 |cons p r b=>
  simp only[jr]at h
  split at h
  .rcases ip.1 h with h|h
   .exact .inr h
   .exact .inl (EQ _ h)
  .rcases ip.1 h with h|h
   .exact .inl (by rw[h];exact zt)
   .exact(b h).imp (EQ _) id
def Yg (a:Nat)(F:δ Nat)(D:aX)(c:GM)(T:Nat)(Z:O)(v:K)(Z':O):Prop:=
 ∃π:PI,v=.tuple [.ptr π.p 0,μ]/\π.a=a/\Pg π Z' c/\ja π Z' c T/\Kp F Z Z'/\(∀b∈π.all,b∈F\/Z.nx<=b)/\Z.nx<=π.p/\Calm π.D/\π.D.aB.length=D.aB.length/\(∃r,π.lg=.ptr r 0/\Z.nx<=r)/\π.D.set=D.set
section
variable {Z Z':O} {a:Nat} {F:δ Nat} {D:aX}
end
