import Derived.Test.YtomffjeofpafnaaGreatDoorNodeC
namespace Lim
open Go
noncomputable section
set_option linter.defProp false
set_option maxRecDepth 100000
section
variable {n:Nat}{M':bR}{l:List Nat}
def iU:PC->iT
 | .node n=>mV n++List.replicate (512-n.size) 0
 | .dR nx d=>be 4 nx++(d++List.replicate (508-d.length) 0)
 | .blank=>lO
def Jt {n:bo}(h:n.size<=512):(iU (.node n)).length=512:=by
 unfold iU;rw[aHR,aIF];unfold bo.size at*;omega
def Ju {nx:Nat}{d:List UInt8}(h:d.length<=508):(iU (.dR nx d)).length=512:=by
 unfold iU;rw[aHR,aHR,aIF,iC];omega
def qB (l:List (Nat×iT))(n q:Nat)(s:iT):cZ (ix l n s) q=if q=n then some s else cZ l q:=by
 induction l with
 |nil=>simp[ix,cZ]
 |cons p r a=>
  simp only[ix]
  split
  .rename_i h;subst h;simp only[cZ];split<;>simp_all
  .rename_i h;simp only[cZ,a]
   split
   .rename_i h2;subst h2;rw[aHM (λe=>h e.symm)]
   .rfl
def eW (M:bR)(D:aU)(n q:Nat)(s:iT)(c:List Nat):({M with now:=ix M.now n s,count:=c}:bR).get D q=if q=n then s else M.get D q:=by
 unfold bR.get;simp only[qB]
 by_cases h:q=n
 .simp[h]
 .simp[h]
def Fq {M:bR}(D:aU){s:iT}(c:M'.now=ix M.now n s)(b:M'.dirty=M.dirty)(a:M'.first=M.first)(q:Nat):M'.get D q=if q=n then s else M.get D q:=by
 unfold bR.get;rw[c,b,a,qB]
 by_cases h:q=n
 .simp[h]
 .simp[h]
def tT (l:List (Nat×iT))(n:Nat)(s:iT):(ix l n s).map (·.1)=fX (l.map (·.1)) n:=by
 induction l with
 |nil=>rfl
 |cons p r a=>
  simp only[ix,aIt,fX]
  split
  .rename_i h;simp[h]
  .simp[a]
def qI (l:List Nat)(n q:Nat):q∈fX l n↔q∈l\/q=n:=by
 induction l with
 |nil=>simp[fX]
 |cons p r a=>
  simp only[fX]
  split
  .rename_i h;simp only[aHJ];constructor
   .rintro(h1|h1);exact .inl (.inl h1);exact .inl (.inr h1)
   .rintro((h1|h1)|h1);exact .inl h1;exact .inr h1;exact .inl (h1.trans h)
  .simp only[aHJ,a];constructor
   .rintro(h1|h1|h1);exact .inl (.inl h1);exact .inl (.inr h1);exact .inr h1
   .rintro((h1|h1)|h1);exact .inl h1;exact .inr (.inl h1);exact .inr (.inr h1)
def Hi (a:l.Nodup)(n q:Nat):q∈Af l n↔q∈l/\q≠n:=by
 induction l with
 |nil=>simp[Af]
 |cons p r b=>
  rw[aHX]at a;simp only[Af]
  split
  .rename_i h;simp only[aHJ];constructor
   .intro h1;exact⟨.inr h1,λe=>a.1 (by rw[<-h,<-e];exact h1)⟩
   .rintro⟨h1|h1,h2⟩;exact absurd (h1.trans h.symm) h2;exact h1
  .rename_i h;simp only[aHJ,b a.2];constructor
   .rintro(h1|⟨h1,h2⟩);exact⟨.inl h1,λe=>h (e.symm.trans h1)⟩;exact⟨.inr h1,h2⟩
   .rintro⟨h1|h1,h2⟩;exact .inl h1;exact .inr ⟨h1,h2⟩
def oF (h:l.Nodup)(n:Nat):(fX l n).Nodup:=by
 induction l with
 |nil=>simp[fX]
 |cons p r a=>
  rw[aHX]at h;simp only[fX]
  split
  .exact aHX.2 h
  .rename_i c;refine aHX.2 ⟨λb=>?_,a h.2⟩;rcases(qI r n p).1 b with h3|h3
   .exact h.1 h3
   .exact c h3.symm
def Jv (h:l.Nodup)(n:Nat):(Af l n).Nodup:=by
 induction l with
 |nil=>exact h
 |cons p r a=>
  have c:=h;rw[aHX]at h;simp only[Af]
  split
  .exact h.2
  .exact aHX.2 ⟨λb=>h.1 ((Hi h.2 n p).1 b).1,a h.2⟩
def O3 (M:bR)(D:aU):List Nat->Prop
 |[]=>True
 |n::r=>M.get D n=fj (r.headD 0)/\O3 M D r
def O3.congr {M:bR}{D:aU}(h:O3 M D l)(a:∀n∈l,M'.get D n=M.get D n):O3 M' D l:=by
 induction l with
 |nil=>trivial
 |cons n r b=>exact⟨(a n wb).trans h.1,b h.2 λm c=>a m (by simp[c])⟩
structure sC (M:bR)(D:aU)(G:GM):Prop where
 aE:M.aE=G.aE
 used:M.m.used=G.used
 root:M.m.root=G.root
 head:M.m.head=G.fr.headD 0
 free:M.m.free=G.fr.length
 idle:∀n,n∈M.idle↔n∈G.fr
 yR:M.idle.Nodup
 ok:uK G
 fits:M.first+M.aE<=D.aq.length
 len:∀n,n<G.used->(M.get D n).length=512
 cont:∀n,G.bW n->M.get D n=iU (G.cont n)
 chain:O3 M D G.fr
 count:M.now.map (·.1)=M.count
 tp:M.count.Nodup
 uS:∀n∈M.count,0<n/\n<G.used
 ef:M.count=G.ef
section
variable {M:bR} {D:aU} {G:GM}
def sC.wj (h:sC M D G)(n:Nat):M.bW n↔G.bW n:=by
 unfold bR.bW GM.bW;rw[h.used,h.idle]
def sC.cD (h:sC M D G):M.cD=(G.cD:Int):=by
 have:=h.ok.ik;unfold bR.cD GM.cD;rw[h.aE,h.used,h.free];omega
def sC.put (h:sC M D G)(b:G.bW n){x:PC}(c:(iU x).length=512):sC {M with now:=ix M.now n (iU x),count:=fX M.count n} D (G.put n x):=by
 refine⟨h.aE,h.used,h.root,h.head,h.free,h.idle,h.yR,h.ok.put _ _,h.fits,λq a=>?_,λq a=>?_,?_,?_,oF h.tp n,λq a=>?_,by show fX M.count n=fX G.ef n;rw[h.ef]⟩
 .rw[eW];split
  .exact c
  .exact h.len q a
 .rw[eW,Ap];split
  .rfl
  .exact h.cont q a
 .exact h.chain.congr λq a=>by rw[eW,aHM (λe=>b.2.2 (by rw[<-e];exact a))]
 .show(ix M.now n (iU x)).map (·.1)=_;rw[tT,h.count]
 .rcases(qI M.count n q).1 a with h1|rfl
  .exact h.uS q h1
  .exact⟨b.1,b.2.1⟩
def sC.fD (h:sC M D G)(n:Nat):sC {M with m:={M.m with root:=n}} D (G.fD n):=
 ⟨h.aE,h.used,rfl,h.head,h.free,h.idle,h.yR,h.ok.fD n,h.fits,h.len,h.cont,h.chain.congr λ_ _=>rfl,h.count,h.tp,h.uS,h.ef⟩
def yX (h:n<2147483648):ph ((fj n).take 4)=n:=by
 unfold fj;rw[aJk (iC 4 n)];exact vU 4 n uM
def sC.Bu (h:sC M D G)(d:G.fr=[])(f:0<G.cD):sC M.Bu D G.alloc:=by
 have g:=uq h.ok f;have a:G.alloc={G with used:=G.used+1,cont:=λq=>if q=G.used then .blank else G.cont q,ef:=fX G.ef G.used}:=by unfold GM.alloc;rw[d]
 have e:∀q,M.Bu.get D q=if q=M.m.used then lO else M.get D q:=Fq D rfl rfl rfl
 refine⟨by rw[a];exact h.aE,by rw[a];show M.m.used+1=G.used+1;rw[h.used],by rw[a];exact h.root,by rw[a];exact h.head,by rw[a];exact h.free,by rw[a];exact h.idle,h.yR,g.ok,by have:=h.fits;exact this,λq b=>?_,λq b=>?_,?_,?_,oF h.tp _,λq b=>?_,by rw[a];show fX M.count M.m.used=fX G.ef G.used;rw[h.ef,h.used]⟩
 .rw[e];split
  .exact qy
  .rename_i i;refine h.len q ?_;rw[a]at b;rw[h.used]at i;have b:q<G.used+1:=b;omega
 .rw[e]
  by_cases c:q=G.used
  .rw[aHP (by rw[h.used];exact c),a];simp[c,iU]
  .rw[aHM (by rw[h.used];exact c),a];simp only[c,aHV];rw[a]at b;refine h.cont q ⟨b.1,?_,by rw[d];simp⟩;have:=b.2.1;have:q<G.used+1:=this;omega
 .rw[a];show O3 _ D G.fr;rw[d];trivial
 .show(ix M.now M.m.used lO).map (·.1)=fX M.count M.m.used;rw[tT,h.count]
 .have hu:G.alloc.used=G.used+1:=by rw[a]
  rw[hu];have h1:=h.ok.one;rcases(qI M.count M.m.used q).1 b with h2|rfl
  .have:=h.uS q h2;omega
  .rw[h.used];omega
def sC.yz (h:sC M D G){r:List Nat}(c:G.fr=n::r)(j:0<G.cD):sC (M.yz D) D G.alloc/\M.m.head=n/\M.m.head≠0/\0<M.m.free/\M.first+M.m.head<D.aq.length/\(M.get D M.m.head).length=512:=by
 have k:=uq h.ok j;have a:G.alloc={G with fr:=r,cont:=λq=>if q=n then .blank else G.cont q,ef:=fX G.ef n}:=by unfold GM.alloc;rw[c]
 have hh:M.m.head=n:=by rw[h.head,c];rfl
 have hn:=h.ok.fr n (by rw[c];simp);have i:=h.ok.nd;rw[c,aHX]at i;have d:=h.chain;rw[c]at d
 have p:r.headD 0<2147483648:=by
  cases r with
  |nil=>simp
  |cons m r=>have:=h.ok.fr m (by rw[c];simp);have:=h.ok.ik;have:=h.ok.size;simp;omega
 have g:∀q,(M.yz D).get D q=if q=n then lO else M.get D q:=λq=>by rw[<-hh];exact Fq (M:=M) (M':=M.yz D) (n:=M.m.head) (s:=lO) D rfl rfl rfl q
 have u:=h.ok.ik;have o:=h.fits;rw[h.aE]at o;refine⟨⟨by rw[a];exact h.aE,by rw[a];exact h.used,by rw[a];exact h.root,?_,?_,λq=>?_,Jv h.yR _,k.ok,h.fits,λq b=>?_,λq b=>?_,?_,?_,oF h.tp _,λq b=>?_,by rw[a];show fX M.count M.m.head=fX G.ef n;rw[h.ef,hh]⟩,hh,uM,by rw[h.free,c];simp,by rw[hh];omega,by rw[hh];exact h.len n hn.2⟩
 .rw[a];show ph ((M.get D M.m.head).take 4)=r.headD 0;rw[hh,d.1,yX p]
 .rw[a];show M.m.free-1=r.length;rw[h.free,c];simp
 .rw[a];show q∈Af M.idle M.m.head↔q∈r;rw[Hi h.yR,h.idle,c,hh];constructor
  .rintro⟨h1,h2⟩;rcases aHJ.1 h1 with h3|h3
   .exact absurd h3 h2
   .exact h3
  .intro h1;exact⟨ael,λe=>i.1 (e▸h1)⟩
 .rw[g];split
  .exact qy
  .rw[a]at b;exact h.len q b
 .rw[g]
  by_cases f:q=n
  .rw[aHP f,a];simp[f,iU]
  .rw[aHM f,a];simp only[f,aHV];rw[a]at b;refine h.cont q ⟨b.1,b.2.1,?_⟩;rw[c];intro h1;rcases aHJ.1 h1 with h3|h3
   .exact f h3
   .exact b.2.2 h3
 .rw[a];exact d.2.congr λq b=>by rw[g,aHM (λe:q=n=>i.1 (e▸b))]
 .show(ix M.now M.m.head lO).map (·.1)=fX M.count M.m.head;rw[tT,h.count]
 .have hu:G.alloc.used=G.used:=by rw[a]
  rw[hu];rcases(qI M.count M.m.head q).1 b with h2|rfl
  .exact h.uS q h2
  .rw[hh];exact hn
def sC.drop (h:sC M D G)(f:G.bW n):sC (M.drop n) D (G.drop n):=by
 have g:=rO h.ok f;have d:∀q,(M.drop n).get D q=if q=n then fj M.m.head else M.get D q:=Fq D rfl rfl rfl
 refine⟨h.aE,h.used,h.root,rfl,?_,λq=>?_,oF h.yR _,g.ok,h.fits,λq c=>?_,λq c=>?_,⟨?_,?_⟩,?_,oF h.tp _,λq c=>?_,by show fX M.count n=fX G.ef n;rw[h.ef]⟩
 .show M.m.free+1=(n::G.fr).length;rw[h.free];rfl
 .show q∈fX M.idle n↔q∈n::G.fr;rw[qI,h.idle,aHJ];constructor<;>rintro(h1|h1)
  .exact .inr h1
  .exact .inl h1
  .exact .inr h1
  .exact .inl h1
 .rw[d];split
  .exact ta _
  .exact h.len q c
 .obtain⟨a,b⟩:=(g.bW q).1 c;rw[d,aHM b];exact h.cont q a
 .rw[d,aHP rfl,h.head]
 .exact h.chain.congr λq c=>by rw[d,aHM (λe:q=n=>f.2.2 (e▸c))]
 .show(ix M.now n (fj M.m.head)).map (·.1)=fX M.count n;rw[tT,h.count]
 .rcases(qI M.count n q).1 c with h1|rfl
  .exact h.uS q h1
  .exact⟨f.1,f.2.1⟩
end
end
structure PI where
 p:Nat
 a:Nat
 lg:CV
 bd:Nat
 bn:Nat
 bi:Nat
 bc:Nat
 Fd:List Nat
 D:aU
 dirty:List (Nat×iT)
 kept:iZ
 first:Nat
def PI.W (π:PI):List Nat:=[π.p,π.bn,π.bi,π.bc]
def PI.all (π:PI):List Nat:=π.p::π.bd::π.bn::π.bi::π.bc::π.Fd
def Pg (π:PI)(st:St)(G:GM):Prop:=∃M,bZ st π.p π.a π.lg M π.bd π.bn π.bi π.bc/\sC M π.D G/\cQ st π.a π.Fd π.D/\π.D.dead=false/\(∀b∈π.Fd,b∉[π.p,π.bd,π.bn,π.bi,π.bc])/\M.dirty=π.dirty/\M.kept=π.kept/\M.first=π.first
section
variable {π:PI} {st st':St} {G:GM}
def Pg.keep {X:List Nat}(h:Pg π st G)(d:Kp X st st')(c:∀b∈π.all,b∉X):Pg π st' G:=by
 obtain⟨M,k,j,i,g,f,e,m,l⟩:=h;exact⟨M,k.keep d λb a=>c b (by unfold PI.all;simp at a⊢;rcases a with h|h|h|h|h<;>simp[h]),j,i.keep d λb a=>c b (by unfold PI.all;simp[a]),g,f,e,m,l⟩
def Pg.still (h:Pg π st G)(a:Kp [] st st'):Pg π st' G:=h.keep a wb
def Pg.lt (h:Pg π st G):∀b∈π.all,b<st.nx:=by
 obtain⟨M,a,i,d,g,f,e,k,j⟩:=h;intro b c;unfold PI.all at c;simp only[aHJ]at c;rcases c with h|h|h|h|h|h
 .exact a.lt b aaX
 .exact a.lt b aaX
 .exact a.lt b aaX
 .exact a.lt b aaX
 .exact a.lt b aaX
 .exact d.lt b h
def Pg.TH (h:Pg π st G):∀b∈π.W,b<st.nx:=λb a=>h.lt b (by unfold PI.W at a;unfold PI.all;simp at a⊢;rcases a with h|h|h|h<;>simp[h])
def Pg.X8 (h:Pg π st G):uK G:=by obtain⟨M,_,a,_⟩:=h;exact a.ok
def JQ (h:Pg π st G):R 54 [.ptr π.p 0] st λv st'=>v=I G.root/\st'=st:=by
 obtain⟨M,b,a,_⟩:=h;refine(Um b).mono ?_;rintro v s ⟨rfl,rfl⟩;exact⟨by rw[a.root],rfl⟩
def P7 (h:Pg π st G):R 62 [.ptr π.p 0] st λv st'=>v=I G.cD/\st'=st:=by
 obtain⟨M,c,a,e,_⟩:=h;have:=a.ok.ik;have:=a.ok.size;have d:=kT G.used G.fr a.ok.nd λx b=>(a.ok.fr x b).2;refine(Av c (by rw[a.aE];omega) (by rw[a.used];omega) (by rw[a.free];omega)).mono ?_;rintro v s ⟨rfl,rfl⟩;exact⟨by rw[a.cD],rfl⟩
def tU (h:Pg π st G)(n:Nat)(e:n=0\/G.bW n):R 49 [.ptr π.p 0,I n] st λv st'=>v=I 0/\Kp π.W st st'/\Pg π st' (G.fD n):=by
 obtain⟨M,l,c,j,i,a,d,o,m⟩:=h;refine(Jr l n (e.imp id λh=>(c.wj n).2 h)).mono ?_;rintro v s ⟨rfl,k,_,g⟩;exact⟨rfl,k.mono acW,_,g,c.fD n,j.keep k λb f hh=>a b f aeG,i,a,d,o,m⟩
def P6 (h:Pg π st G){n:Nat}(b:G.bW n):R 137 [.ptr π.p 0,I n] st (Got (iU (G.cont n)) st):=by
 obtain⟨M,g,a,f,e,j,i,l,k⟩:=h;have hf:=a.fits;have:=a.ok.ik;have d:=a.cont n b;have c:=a.len n b.2.1;have:=b.2.1;have:=P5 g f e ((a.wj n).2 b) (by rw[a.aE]at hf;omega) c;rw[d]at this;exact this
def Ly (h:Pg π st G){n:Nat}(c:G.bW n){v:CV}{x:PC}(i:Sl st [π.bn,π.bc] v 1 (ai (iU x)))(a:(iU x).length=512):R 99 [.ptr π.p 0,I n,v] st λy st'=>y=I 0/\Kp π.W st st'/\Pg π st' (G.put n x):=by
 obtain⟨M,o,e,m,l,d,f,r,q⟩:=h;refine(Nh o ((e.wj n).2 c) i a).mono ?_;rintro y s ⟨rfl,k,_,g⟩;exact⟨rfl,k.mono acW,_,g,e.put c a,m.keep k λb j hh=>d b j (by simp at hh;rcases hh with h|h<;>simp[h]),l,d,f,r,q⟩
def Lz (h:Pg π st G)(l:0<G.cD):R 97 [.ptr π.p 0] st λv st'=>v=.tuple [I G.dA,I 0]/\Kp π.W st st'/\Pg π st' G.alloc:=by
 obtain⟨M,o,a,f,e,c,j,A,z⟩:=h;have:=a.ok.ik;have:=a.ok.size;have K:=kT G.used G.fr a.ok.nd λx J=>(a.ok.fr x J).2;have y:M.aE<=1000000:=by rw[a.aE];omega
 have w:M.m.used<=1000000:=by rw[a.used];omega
 have u:M.m.free<=1000000:=by rw[a.free];omega
 have q:M.cD≠0:=by rw[a.cD];omega
 cases h0:G.fr with
 |nil=>
  have i:G.dA=G.used:=by unfold GM.dA;rw[h0]
  refine(OH o y w u q (by rw[a.head,h0];rfl)).mono ?_;rintro v s ⟨rfl,k,_,g⟩;exact⟨by rw[i,a.used],k.mono acW,_,g,a.Bu h0 l,f.keep k λb d hh=>c b d (by simp at hh;rcases hh with h|h|h<;>simp[h]),e,c,j,A,z⟩
 |cons n r=>
  have i:G.dA=n:=by unfold GM.dA;rw[h0]
  obtain⟨H,F,E,D,C,B⟩:=a.yz h0 l;refine(OG o f e y w u q D E C B).mono ?_;rintro v s ⟨rfl,k,g⟩;exact⟨by rw[i,F],k.mono acW,_,g,H,f.keep k λb d hh=>c b d (by simp at hh;rcases hh with h|h|h|h<;>simp[h]),e,c,j,A,z⟩
def Et (h:Pg π st G){n:Nat}(c:G.bW n):R 95 [.ptr π.p 0,I n] st λv st'=>v=I 0/\Kp π.W st st'/\Pg π st' (G.drop n):=by
 obtain⟨M,o,a,l,j,d,e,u,q⟩:=h;have:=a.ok.ik;have:=a.ok.size;have w:=kT G.used G.fr a.ok.nd λx f=>(a.ok.fr x f).2
 have hh:M.m.head<=1000000:=by
  rw[a.head];cases h0:G.fr with
  |nil=>simp
  |cons m r=>have:=a.ok.fr m (by rw[h0];simp);simp;omega
 refine(VW o ((a.wj n).2 c) (by rw[a.free];omega) hh).mono ?_;rintro v s ⟨rfl,k,g⟩;exact⟨rfl,k.mono acW,_,g,a.drop c,l.keep k λb i hh=>d b i (by simp at hh;rcases hh with h|h|h|h<;>simp[h]),j,d,e,u,q⟩
end
