import Derived.Test.YtomffjeofpafnaaGreatDoorNodeC
namespace Lim
open Go
noncomputable section
set_option linter.defProp false
set_option maxRecDepth 100000
section
variable {n:Nat}{M':bZ}{l:List Nat}
def iM:PC->jU
 | .node n=>mG n++List.replicate (512-n.size) 0
 | .dU nx d=>be 4 nx++(d++List.replicate (508-d.length) 0)
 | .blank=>lj
def I9 {n:bp}(h:n.size<=512):(iM (.node n)).length=512:=by
 unfold iM;rw[aEU,aFI];unfold bp.size at*;omega
def Ja {nx:Nat}{d:List UInt8}(h:d.length<=508):(iM (.dU nx d)).length=512:=by
 unfold iM;rw[aEU,aEU,aFI,il];omega
def pV (l:List (Nat×jU))(n q:Nat)(s:jU):dt (ig l n s) q=if q=n then some s else dt l q:=by
 induction l with
 |nil=>simp[ig,dt]
 |cons p r ih=>
  simp only[ig]
  split
  .rename_i h;subst h;simp only[dt];split<;>simp_all
  .rename_i h;simp only[dt,ih]
   split
   .rename_i h2;subst h2;rw[aET (λe=>h e.symm)]
   .rfl
def eZ (M:bZ)(D:bf)(n q:Nat)(s:jU)(c:List Nat):({M with now:=ig M.now n s,count:=c}:bZ).get D q=if q=n then s else M.get D q:=by
 unfold bZ.get;simp only[pV]
 by_cases h:q=n
 .simp[h]
 .simp[h]
def EO {M:bZ}(D:bf){s:jU}(h1:M'.now=ig M.now n s)(h2:M'.dirty=M.dirty)(h3:M'.first=M.first)(q:Nat):M'.get D q=if q=n then s else M.get D q:=by
 unfold bZ.get;rw[h1,h2,h3,pV]
 by_cases h:q=n
 .simp[h]
 .simp[h]
def tI (l:List (Nat×jU))(n:Nat)(s:jU):(ig l n s).map (·.1)=nj (l.map (·.1)) n:=by
 induction l with
 |nil=>rfl
 |cons p r ih=>
  simp only[ig,aFv,nj]
  split
  .rename_i h;simp[h]
  .simp[ih]
def qb (l:List Nat)(n q:Nat):q∈nj l n↔q∈l\/q=n:=by
 induction l with
 |nil=>simp[nj]
 |cons p r ih=>
  simp only[nj]
  split
  .rename_i h;simp only[aEP];constructor
   .rintro(h1|h1);exact .inl (.inl h1);exact .inl (.inr h1)
   .rintro((h1|h1)|h1);exact .inl h1;exact .inr h1;exact .inl (h1.trans h)
  .simp only[aEP,ih];constructor
   .rintro(h1|h1|h1);exact .inl (.inl h1);exact .inl (.inr h1);exact .inr h1
   .rintro((h1|h1)|h1);exact .inl h1;exact .inr (.inl h1);exact .inr (.inr h1)
def GB (hn:l.Nodup)(n q:Nat):q∈zL l n↔q∈l/\q≠n:=by
 induction l with
 |nil=>simp[zL]
 |cons p r ih=>
  rw[aFd]at hn;simp only[zL]
  split
  .rename_i h;simp only[aEP];constructor
   .intro h1;exact⟨.inr h1,λe=>hn.1 (by rw[<-h,<-e];exact h1)⟩
   .rintro⟨h1|h1,h2⟩;exact absurd (h1.trans h.symm) h2;exact h1
  .rename_i h;simp only[aEP,ih hn.2];constructor
   .rintro(h1|⟨h1,h2⟩);exact⟨.inl h1,λe=>h (e.symm.trans h1)⟩;exact⟨.inr h1,h2⟩
   .rintro⟨h1|h1,h2⟩;exact .inl h1;exact .inr ⟨h1,h2⟩
def nQ (h:l.Nodup)(n:Nat):(nj l n).Nodup:=by
 induction l with
 |nil=>simp[nj]
 |cons p r ih=>
  rw[aFd]at h;simp only[nj]
  split
  .exact aFd.2 h
  .rename_i ij;refine aFd.2 ⟨λh2=>?_,ih h.2⟩;rcases(qb r n p).1 h2 with h3|h3
   .exact h.1 h3
   .exact ij h3.symm
def Jb (h:l.Nodup)(n:Nat):(zL l n).Nodup:=by
 induction l with
 |nil=>exact h
 |cons p r ih=>
  have h':=h;rw[aFd]at h;simp only[zL]
  split
  .exact h.2
  .exact aFd.2 ⟨λh2=>h.1 ((GB h.2 n p).1 h2).1,ih h.2⟩
def OG (M:bZ)(D:bf):List Nat->Prop
 |[]=>True
 |n::r=>M.get D n=fo (r.headD 0)/\OG M D r
def OG.congr {M:bZ}{D:bf}(h:OG M D l)(hg:∀n∈l,M'.get D n=M.get D n):OG M' D l:=by
 induction l with
 |nil=>trivial
 |cons n r ih=>exact⟨(hg n uG).trans h.1,ih h.2 λm hm=>hg m (by simp[hm])⟩
structure uc (M:bZ)(D:bf)(G:GM):Prop where
 aH:M.aH=G.aH
 used:M.m.used=G.used
 root:M.m.root=G.root
 head:M.m.head=G.fr.headD 0
 free:M.m.free=G.fr.length
 idle:∀n,n∈M.idle↔n∈G.fr
 yu:M.idle.Nodup
 ok:uY G
 fits:M.first+M.aH<=D.aA.length
 len:∀n,n<G.used->(M.get D n).length=512
 cont:∀n,G.bW n->M.get D n=iM (G.cont n)
 chain:OG M D G.fr
 count:M.now.map (·.1)=M.count
 rq:M.count.Nodup
 sJ:∀n∈M.count,0<n/\n<G.used
section
variable {M:bZ} {D:bf} {G:GM}
def uc.vV (h:uc M D G)(n:Nat):M.bW n↔G.bW n:=by
 unfold bZ.bW GM.bW;rw[h.used,h.idle]
def uc.cF (h:uc M D G):M.cF=(G.cF:Int):=by
 have:=h.ok.jL;unfold bZ.cF GM.cF;rw[h.aH,h.used,h.free];omega
def uc.put (h:uc M D G)(hn:G.bW n){x:PC}(hx:(iM x).length=512):uc {M with now:=ig M.now n (iM x),count:=nj M.count n} D (G.put n x):=by
 refine⟨h.aH,h.used,h.root,h.head,h.free,h.idle,h.yu,h.ok.put _ _,h.fits,λq hq=>?_,λq hq=>?_,?_,?_,nQ h.rq n,λq hq=>?_⟩
 .rw[eZ];split
  .exact hx
  .exact h.len q hq
 .rw[eZ,zZ];split
  .rfl
  .exact h.cont q hq
 .exact h.chain.congr λq hq=>by rw[eZ,aET (λe=>hn.2.2 (by rw[<-e];exact hq))]
 .show(ig M.now n (iM x)).map (·.1)=_;rw[tI,h.count]
 .rcases(qb M.count n q).1 hq with h1|rfl
  .exact h.sJ q h1
  .exact⟨hn.1,hn.2.1⟩
def uc.gM (h:uc M D G)(n:Nat):uc {M with m:={M.m with root:=n}} D (G.gM n):=
 ⟨h.aH,h.used,rfl,h.head,h.free,h.idle,h.yu,h.ok.gM n,h.fits,h.len,h.cont,h.chain.congr λ_ _=>rfl,h.count,h.rq,h.sJ⟩
def yA (h:n<2147483648):oC ((fo n).take 4)=n:=by
 unfold fo;rw[aGj (il 4 n)];exact vL 4 n qE
def uc.Bc (h:uc M D G)(h0:G.fr=[])(hf:0<G.cF):uc M.Bc D G.alloc:=by
 have ha:=ru h.ok hf;have e1:G.alloc={G with used:=G.used+1,cont:=λq=>if q=G.used then .blank else G.cont q}:=by unfold GM.alloc;rw[h0]
 have oN:∀q,M.Bc.get D q=if q=M.m.used then lj else M.get D q:=EO D rfl rfl rfl
 refine⟨by rw[e1];exact h.aH,by rw[e1];show M.m.used+1=G.used+1;rw[h.used],by rw[e1];exact h.root,by rw[e1];exact h.head,by rw[e1];exact h.free,by rw[e1];exact h.idle,h.yu,ha.ok,by have:=h.fits;exact this,λq hq=>?_,λq hq=>?_,?_,?_,nQ h.rq _,λq hq=>?_⟩
 .rw[oN];split
  .exact pS
  .rename_i ij;refine h.len q ?_;rw[e1]at hq;rw[h.used]at ij;have hq:q<G.used+1:=hq;omega
 .rw[oN]
  by_cases JP:q=G.used
  .rw[aEW (by rw[h.used];exact JP),e1];simp[JP,iM]
  .rw[aET (by rw[h.used];exact JP),e1];simp only[JP,aFa];rw[e1]at hq;refine h.cont q ⟨hq.1,?_,by rw[h0];simp⟩;have:=hq.2.1;have:q<G.used+1:=this;omega
 .rw[e1];show OG _ D G.fr;rw[h0];trivial
 .show(ig M.now M.m.used lj).map (·.1)=nj M.count M.m.used;rw[tI,h.count]
 .have hu:G.alloc.used=G.used+1:=by rw[e1]
  rw[hu];have h1:=h.ok.one;rcases(qb M.count M.m.used q).1 hq with h2|rfl
  .have:=h.sJ q h2;omega
  .rw[h.used];omega
def uc.xU (h:uc M D G){r:List Nat}(h0:G.fr=n::r)(hf:0<G.cF):uc (M.xU D) D G.alloc/\M.m.head=n/\M.m.head≠0/\0<M.m.free/\M.first+M.m.head<D.aA.length/\(M.get D M.m.head).length=512:=by
 have ha:=ru h.ok hf;have e1:G.alloc={G with fr:=r,cont:=λq=>if q=n then .blank else G.cont q}:=by unfold GM.alloc;rw[h0]
 have hh:M.m.head=n:=by rw[h.head,h0];rfl
 have hn:=h.ok.fr n (by rw[h0];simp);have ja:=h.ok.nd;rw[h0,aFd]at ja;have hch:=h.chain;rw[h0]at hch
 have BT:r.headD 0<2147483648:=by
  cases r with
  |nil=>simp
  |cons m r=>have:=h.ok.fr m (by rw[h0];simp);have:=h.ok.jL;have:=h.ok.size;simp;omega
 have oN:∀q,(M.xU D).get D q=if q=n then lj else M.get D q:=λq=>by rw[<-hh];exact EO (M:=M) (M':=M.xU D) (n:=M.m.head) (s:=lj) D rfl rfl rfl q
 have hm:=h.ok.jL;have Rr:=h.fits;rw[h.aH]at Rr;refine⟨⟨by rw[e1];exact h.aH,by rw[e1];exact h.used,by rw[e1];exact h.root,?_,?_,λq=>?_,Jb h.yu _,ha.ok,h.fits,λq hq=>?_,λq hq=>?_,?_,?_,nQ h.rq _,λq hq=>?_⟩,hh,qE,by rw[h.free,h0];simp,by rw[hh];omega,by rw[hh];exact h.len n hn.2⟩
 .rw[e1];show oC ((M.get D M.m.head).take 4)=r.headD 0;rw[hh,hch.1,yA BT]
 .rw[e1];show M.m.free-1=r.length;rw[h.free,h0];simp
 .rw[e1];show q∈zL M.idle M.m.head↔q∈r;rw[GB h.yu,h.idle,h0,hh];constructor
  .rintro⟨h1,h2⟩;rcases aEP.1 h1 with h3|h3
   .exact absurd h3 h2
   .exact h3
  .intro h1;exact⟨by simp[h1],λe=>ja.1 (e▸h1)⟩
 .rw[oN];split
  .exact pS
  .rw[e1]at hq;exact h.len q hq
 .rw[oN]
  by_cases JP:q=n
  .rw[aEW JP,e1];simp[JP,iM]
  .rw[aET JP,e1];simp only[JP,aFa];rw[e1]at hq;refine h.cont q ⟨hq.1,hq.2.1,?_⟩;rw[h0];intro h1;rcases aEP.1 h1 with h3|h3
   .exact JP h3
   .exact hq.2.2 h3
 .rw[e1];exact hch.2.congr λq hq=>by rw[oN,aET (λe:q=n=>ja.1 (e▸hq))]
 .show(ig M.now M.m.head lj).map (·.1)=nj M.count M.m.head;rw[tI,h.count]
 .have hu:G.alloc.used=G.used:=by rw[e1]
  rw[hu];rcases(qb M.count M.m.head q).1 hq with h2|rfl
  .exact h.sJ q h2
  .rw[hh];exact hn
def uc.drop (h:uc M D G)(hn:G.bW n):uc (M.drop n) D (G.drop n):=by
 have hd:=tU h.ok hn;have oN:∀q,(M.drop n).get D q=if q=n then fo M.m.head else M.get D q:=EO D rfl rfl rfl
 refine⟨h.aH,h.used,h.root,rfl,?_,λq=>?_,nQ h.yu _,hd.ok,h.fits,λq hq=>?_,λq hq=>?_,⟨?_,?_⟩,?_,nQ h.rq _,λq hq=>?_⟩
 .show M.m.free+1=(n::G.fr).length;rw[h.free];rfl
 .show q∈nj M.idle n↔q∈n::G.fr;rw[qb,h.idle,aEP];constructor<;>rintro(h1|h1)
  .exact .inr h1
  .exact .inl h1
  .exact .inr h1
  .exact .inl h1
 .rw[oN];split
  .exact sR _
  .exact h.len q hq
 .obtain⟨a,b⟩:=(hd.bW q).1 hq;rw[oN,aET b];exact h.cont q a
 .rw[oN,aEW rfl,h.head]
 .exact h.chain.congr λq hq=>by rw[oN,aET (λe:q=n=>hn.2.2 (e▸hq))]
 .show(ig M.now n (fo M.m.head)).map (·.1)=nj M.count n;rw[tI,h.count]
 .rcases(qb M.count n q).1 hq with h1|rfl
  .exact h.sJ q h1
  .exact⟨hn.1,hn.2.1⟩
end
end
structure PI where
 p:Nat
 a:Nat
 lg:CV
 bd:Nat
 bn:Nat
 bi:Nat
 bc:Nat
 Fd:List Nat
 D:bf
 dirty:List (Nat×jU)
 kept:j9
 first:Nat
def PI.W (π:PI):List Nat:=[π.p,π.bn,π.bi,π.bc]
def PI.all (π:PI):List Nat:=π.p::π.bd::π.bn::π.bi::π.bc::π.Fd
def Pg (π:PI)(st:St)(G:GM):Prop:=∃M,cP st π.p π.a π.lg M π.bd π.bn π.bi π.bc/\uc M π.D G/\dz st π.a π.Fd π.D/\π.D.dead=false/\(∀b∈π.Fd,b∉[π.p,π.bd,π.bn,π.bi,π.bc])/\M.dirty=π.dirty/\M.kept=π.kept/\M.first=π.first
section
variable {π:PI} {st st':St} {G:GM}
def Pg.keep {X:List Nat}(h:Pg π st G)(hk:Kp X st st')(hx:∀b∈π.all,b∉X):Pg π st' G:=by
 obtain⟨M,h1,h2,h3,h4,h5,AP,EL,Iw⟩:=h;exact⟨M,h1.keep hk λb hb=>hx b (by unfold PI.all;simp at hb⊢;rcases hb with h|h|h|h|h<;>simp[h]),h2,h3.keep hk λb hb=>hx b (by unfold PI.all;simp[hb]),h4,h5,AP,EL,Iw⟩
def Pg.still (h:Pg π st G)(hk:Kp [] st st'):Pg π st' G:=h.keep hk uG
def Pg.lt (h:Pg π st G):∀b∈π.all,b<st.nx:=by
 obtain⟨M,h1,h2,h3,h4,h5,AP,EL,Iw⟩:=h;intro b hb;unfold PI.all at hb;simp only[aEP]at hb;rcases hb with h|h|h|h|h|h
 .exact h1.lt b Pb
 .exact h1.lt b Pb
 .exact h1.lt b Pb
 .exact h1.lt b Pb
 .exact h1.lt b Pb
 .exact h3.lt b h
def Pg.Oc (h:Pg π st G):∀b∈π.W,b<st.nx:=λb hb=>h.lt b (by unfold PI.W at hb;unfold PI.all;simp at hb⊢;rcases hb with h|h|h|h<;>simp[h])
def Pg.XZ (h:Pg π st G):uY G:=by obtain⟨M,_,h2,_⟩:=h;exact h2.ok
def Kp.EU {X:List Nat}{a:Nat}{F:List Nat}{D:bf}(h:dz st a F D)(hk:Kp X st st')(hx:∀b∈F,b∉X):dz st' a F D:=h.keep hk hx
def Js (h:Pg π st G):R 54 [.ptr π.p 0] st λv st'=>v=I G.root/\st'=st:=by
 obtain⟨M,h1,h2,_⟩:=h;refine(Up h1).mono ?_;rintro v s ⟨rfl,rfl⟩;exact⟨by rw[h2.root],rfl⟩
def P8 (h:Pg π st G):R 62 [.ptr π.p 0] st λv st'=>v=I G.cF/\st'=st:=by
 obtain⟨M,h1,h2,h3,_⟩:=h;have:=h2.ok.jL;have:=h2.ok.size;have j0:=lC G.used G.fr h2.ok.nd λx hx=>(h2.ok.fr x hx).2;refine(Ac h1 (by rw[h2.aH];omega) (by rw[h2.used];omega) (by rw[h2.free];omega)).mono ?_;rintro v s ⟨rfl,rfl⟩;exact⟨by rw[h2.cF],rfl⟩
def pW (h:Pg π st G)(n:Nat)(hn:n=0\/G.bW n):R 49 [.ptr π.p 0,I n] st λv st'=>v=I 0/\Kp π.W st st'/\Pg π st' (G.gM n):=by
 obtain⟨M,h1,h2,h3,h4,h5,AP,EL,Iw⟩:=h;refine(I7 h1 n (hn.imp id λh=>(h2.vV n).2 h)).mono ?_;rintro v s ⟨rfl,k,_,g⟩;exact⟨rfl,k.mono acg,_,g,h2.gM n,h3.keep k λb hb hh=>h5 b hb adN,h4,h5,AP,EL,Iw⟩
def P7 (h:Pg π st G){n:Nat}(hn:G.bW n):R 137 [.ptr π.p 0,I n] st (Got (iM (G.cont n)) st):=by
 obtain⟨M,h1,h2,h3,h4,h5,AP,EL,Iw⟩:=h;have hf:=h2.fits;have:=h2.ok.jL;have h6:=h2.cont n hn;have h7:=h2.len n hn.2.1;have:=hn.2.1;have:=P4 h1 h3 h4 ((h2.vV n).2 hn) (by rw[h2.aH]at hf;omega) h7;rw[h6]at this;exact this
def KN (h:Pg π st G){n:Nat}(hn:G.bW n){v:CV}{x:PC}(hv:Sl st [π.bn,π.bc] v 1 (aj (iM x)))(hx:(iM x).length=512):R 99 [.ptr π.p 0,I n,v] st λy st'=>y=I 0/\Kp π.W st st'/\Pg π st' (G.put n x):=by
 obtain⟨M,h1,h2,h3,h4,h5,AP,EL,Iw⟩:=h;refine(MM h1 ((h2.vV n).2 hn) hv hx).mono ?_;rintro y s ⟨rfl,k,_,g⟩;exact⟨rfl,k.mono acg,_,g,h2.put hn hx,h3.keep k λb hb hh=>h5 b hb (by simp at hh;rcases hh with h|h<;>simp[h]),h4,h5,AP,EL,Iw⟩
def KO (h:Pg π st G)(hf:0<G.cF):R 97 [.ptr π.p 0] st λv st'=>v=.tuple [I G.dL,I 0]/\Kp π.W st st'/\Pg π st' G.alloc:=by
 obtain⟨M,h1,h2,h3,h4,h5,AP,EL,Iw⟩:=h;have:=h2.ok.jL;have:=h2.ok.size;have j0:=lC G.used G.fr h2.ok.nd λx hx=>(h2.ok.fr x hx).2;have b1:M.aH<=1000000:=by rw[h2.aH];omega
 have b2:M.m.used<=1000000:=by rw[h2.used];omega
 have b3:M.m.free<=1000000:=by rw[h2.free];omega
 have b4:M.cF≠0:=by rw[h2.cF];omega
 cases h0:G.fr with
 |nil=>
  have e2:G.dL=G.used:=by unfold GM.dL;rw[h0]
  refine(Ob h1 b1 b2 b3 b4 (by rw[h2.head,h0];rfl)).mono ?_;rintro v s ⟨rfl,k,_,g⟩;exact⟨by rw[e2,h2.used],k.mono acg,_,g,h2.Bc h0 hf,h3.keep k λb hb hh=>h5 b hb (by simp at hh;rcases hh with h|h|h<;>simp[h]),h4,h5,AP,EL,Iw⟩
 |cons n r=>
  have e2:G.dL=n:=by unfold GM.dL;rw[h0]
  obtain⟨r1,r2,r3,r4,r5,r6⟩:=h2.xU h0 hf;refine(Oa h1 h3 h4 b1 b2 b3 b4 r4 r3 r5 r6).mono ?_;rintro v s ⟨rfl,k,g⟩;exact⟨by rw[e2,r2],k.mono acg,_,g,r1,h3.keep k λb hb hh=>h5 b hb (by simp at hh;rcases hh with h|h|h|h<;>simp[h]),h4,h5,AP,EL,Iw⟩
def DX (h:Pg π st G){n:Nat}(hn:G.bW n):R 95 [.ptr π.p 0,I n] st λv st'=>v=I 0/\Kp π.W st st'/\Pg π st' (G.drop n):=by
 obtain⟨M,h1,h2,h3,h4,h5,AP,EL,Iw⟩:=h;have:=h2.ok.jL;have:=h2.ok.size;have j0:=lC G.used G.fr h2.ok.nd λx hx=>(h2.ok.fr x hx).2
 have hh:M.m.head<=1000000:=by
  rw[h2.head];cases h0:G.fr with
  |nil=>simp
  |cons m r=>have:=h2.ok.fr m (by rw[h0];simp);simp;omega
 refine(VO h1 ((h2.vV n).2 hn) (by rw[h2.free];omega) hh).mono ?_;rintro v s ⟨rfl,k,g⟩;exact⟨rfl,k.mono acg,_,g,h2.drop hn,h3.keep k λb hb hh=>h5 b hb (by simp at hh;rcases hh with h|h|h|h<;>simp[h]),h4,h5,AP,EL,Iw⟩
end
