import Derived.Test.YtomffjeofpafnaaGreatDoorNodeC
namespace Lim
open Go
noncomputable section
set_option linter.defProp false
set_option maxRecDepth 100000
section
variable {n:Nat}{M':bQ}{l:List Nat}
def ix:PC->iJ
 | .node n=>mD n++List.replicate (512-n.size) 0
 | .dR nx d=>be 4 nx++(d++List.replicate (508-d.length) 0)
 | .blank=>lE
def HZ {n:bg}(h:n.size<=512):(ix (.node n)).length=512:=by
 unfold ix;rw[aDw,aEo];unfold bg.size at*;omega
def H0 {nx:Nat}{d:List UInt8}(h:d.length<=508):(ix (.dR nx d)).length=512:=by
 unfold ix;rw[aDw,aDw,aEo,gZ];omega
def pD (l:List (Nat×iJ))(n q:Nat)(s:iJ):cX (gW l n s) q=if q=n then some s else cX l q:=by
 induction l with
 |nil=>simp[gW,cX]
 |cons p r ih=>
  simp only[gW]
  split
  .rename_i h;subst h;simp only[cX];split<;>simp_all
  .rename_i h;simp only[cX,ih]
   split
   .rename_i h2;subst h2;rw[aDv (λe=>h e.symm)]
   .rfl
def eO (M:bQ)(D:aP)(n q:Nat)(s:iJ)(c:List Nat):({M with now:=gW M.now n s,count:=c}:bQ).get D q=if q=n then s else M.get D q:=by
 unfold bQ.get;simp only[pD]
 by_cases h:q=n
 .simp[h]
 .simp[h]
def DZ {M:bQ}(D:aP){s:iJ}(h1:M'.now=gW M.now n s)(h2:M'.dirty=M.dirty)(h3:M'.first=M.first)(q:Nat):M'.get D q=if q=n then s else M.get D q:=by
 unfold bQ.get;rw[h1,h2,h3,pD]
 by_cases h:q=n
 .simp[h]
 .simp[h]
def sW (l:List (Nat×iJ))(n:Nat)(s:iJ):(gW l n s).map (·.1)=nh (l.map (·.1)) n:=by
 induction l with
 |nil=>rfl
 |cons p r ih=>
  simp only[gW,aEc,nh]
  split
  .rename_i h;simp[h]
  .simp[ih]
def pH (l:List Nat)(n q:Nat):q∈nh l n↔q∈l\/q=n:=by
 induction l with
 |nil=>simp[nh]
 |cons p r ih=>
  simp only[nh]
  split
  .rename_i h;simp only[aDs];constructor
   .rintro(h1|h1);exact .inl (.inl h1);exact .inl (.inr h1)
   .rintro((h1|h1)|h1);exact .inl h1;exact .inr h1;exact .inl (h1.trans h)
  .simp only[aDs,ih];constructor
   .rintro(h1|h1|h1);exact .inl (.inl h1);exact .inl (.inr h1);exact .inr h1
   .rintro((h1|h1)|h1);exact .inl h1;exact .inr (.inl h1);exact .inr (.inr h1)
def FK (hn:l.Nodup)(n q:Nat):q∈yZ l n↔q∈l/\q≠n:=by
 induction l with
 |nil=>simp[yZ]
 |cons p r ih=>
  rw[aDG]at hn;simp only[yZ]
  split
  .rename_i h;simp only[aDs];constructor
   .intro h1;exact⟨.inr h1,λe=>hn.1 (by rw[<-h,<-e];exact h1)⟩
   .rintro⟨h1|h1,h2⟩;exact absurd (h1.trans h.symm) h2;exact h1
  .rename_i h;simp only[aDs,ih hn.2];constructor
   .rintro(h1|⟨h1,h2⟩);exact⟨.inl h1,λe=>h (e.symm.trans h1)⟩;exact⟨.inr h1,h2⟩
   .rintro⟨h1|h1,h2⟩;exact .inl h1;exact .inr ⟨h1,h2⟩
def nK (h:l.Nodup)(n:Nat):(nh l n).Nodup:=by
 induction l with
 |nil=>simp[nh]
 |cons p r ih=>
  rw[aDG]at h;simp only[nh]
  split
  .exact aDG.2 h
  .rename_i gq;refine aDG.2 ⟨λh2=>?_,ih h.2⟩;rcases(pH r n p).1 h2 with h3|h3
   .exact h.1 h3
   .exact gq h3.symm
def Ia (h:l.Nodup)(n:Nat):(yZ l n).Nodup:=by
 induction l with
 |nil=>exact h
 |cons p r ih=>
  have h':=h;rw[aDG]at h;simp only[yZ]
  split
  .exact h.2
  .exact aDG.2 ⟨λh2=>h.1 ((FK h.2 n p).1 h2).1,ih h.2⟩
def Ni (M:bQ)(D:aP):List Nat->Prop
 |[]=>True
 |n::r=>M.get D n=eY (r.headD 0)/\Ni M D r
def Ni.congr {M:bQ}{D:aP}(h:Ni M D l)(hg:∀n∈l,M'.get D n=M.get D n):Ni M' D l:=by
 induction l with
 |nil=>trivial
 |cons n r ih=>exact⟨(hg n rq).trans h.1,ih h.2 λm hm=>hg m (by simp[hm])⟩
structure rj (M:bQ)(D:aP)(G:GM):Prop where
 aE:M.aE=G.aE
 used:M.m.used=G.used
 root:M.m.root=G.root
 head:M.m.head=G.fr.headD 0
 free:M.m.free=G.fr.length
 idle:∀n,n∈M.idle↔n∈G.fr
 xS:M.idle.Nodup
 ok:uX G
 fits:M.first+M.aE<=D.ao.length
 len:∀n,n<G.used->(M.get D n).length=512
 cont:∀n,G.bS n->M.get D n=ix (G.cont n)
 chain:Ni M D G.fr
 count:M.now.map (·.1)=M.count
 qH:M.count.Nodup
 rS:∀n∈M.count,0<n/\n<G.used
section
variable {M:bQ} {D:aP} {G:GM}
def rj.vn (h:rj M D G)(n:Nat):M.bS n↔G.bS n:=by
 unfold bQ.bS GM.bS;rw[h.used,h.idle]
def rj.cP (h:rj M D G):M.cP=(G.cP:Int):=by
 have:=h.ok.iv;unfold bQ.cP GM.cP;rw[h.aE,h.used,h.free];omega
def rj.put (h:rj M D G)(hn:G.bS n){x:PC}(hx:(ix x).length=512):rj {M with now:=gW M.now n (ix x),count:=nh M.count n} D (G.put n x):=by
 refine⟨h.aE,h.used,h.root,h.head,h.free,h.idle,h.xS,h.ok.put _ _,h.fits,λq hq=>?_,λq hq=>?_,?_,?_,nK h.qH n,λq hq=>?_⟩
 .rw[eO];split
  .exact hx
  .exact h.len q hq
 .rw[eO,zl];split
  .rfl
  .exact h.cont q hq
 .exact h.chain.congr λq hq=>by rw[eO,aDv (λe=>hn.2.2 (by rw[<-e];exact hq))]
 .show(gW M.now n (ix x)).map (·.1)=_;rw[sW,h.count]
 .rcases(pH M.count n q).1 hq with h1|rfl
  .exact h.rS q h1
  .exact⟨hn.1,hn.2.1⟩
def rj.gO (h:rj M D G)(n:Nat):rj {M with m:={M.m with root:=n}} D (G.gO n):=
 ⟨h.aE,h.used,rfl,h.head,h.free,h.idle,h.xS,h.ok.gO n,h.fits,h.len,h.cont,h.chain.congr λ_ _=>rfl,h.count,h.qH,h.rS⟩
def xX (h:n<2147483648):og ((eY n).take 4)=n:=by
 unfold eY;rw[aEP (gZ 4 n)];exact uU 4 n pX
def rj.Aw (h:rj M D G)(h0:G.fr=[])(hf:0<G.cP):rj M.Aw D G.alloc:=by
 have ha:=tB h.ok hf;have e1:G.alloc={G with used:=G.used+1,cont:=λq=>if q=G.used then .blank else G.cont q}:=by unfold GM.alloc;rw[h0]
 have jW:∀q,M.Aw.get D q=if q=M.m.used then lE else M.get D q:=DZ D rfl rfl rfl
 refine⟨by rw[e1];exact h.aE,by rw[e1];show M.m.used+1=G.used+1;rw[h.used],by rw[e1];exact h.root,by rw[e1];exact h.head,by rw[e1];exact h.free,by rw[e1];exact h.idle,h.xS,ha.ok,by have:=h.fits;exact this,λq hq=>?_,λq hq=>?_,?_,?_,nK h.qH _,λq hq=>?_⟩
 .rw[jW];split
  .exact pA
  .rename_i gq;refine h.len q ?_;rw[e1]at hq;rw[h.used]at gq;have hq:q<G.used+1:=hq;omega
 .rw[jW]
  by_cases IX:q=G.used
  .rw[aDy (by rw[h.used];exact IX),e1];simp[IX,ix]
  .rw[aDv (by rw[h.used];exact IX),e1];simp only[IX,aDE];rw[e1]at hq;refine h.cont q ⟨hq.1,?_,by rw[h0];simp⟩;have:=hq.2.1;have:q<G.used+1:=this;omega
 .rw[e1];show Ni _ D G.fr;rw[h0];trivial
 .show(gW M.now M.m.used lE).map (·.1)=nh M.count M.m.used;rw[sW,h.count]
 .have hu:G.alloc.used=G.used+1:=by rw[e1]
  rw[hu];have h1:=h.ok.one;rcases(pH M.count M.m.used q).1 hq with h2|rfl
  .have:=h.rS q h2;omega
  .rw[h.used];omega
def rj.xy (h:rj M D G){r:List Nat}(h0:G.fr=n::r)(hf:0<G.cP):rj (M.xy D) D G.alloc/\M.m.head=n/\M.m.head≠0/\0<M.m.free/\M.first+M.m.head<D.ao.length/\(M.get D M.m.head).length=512:=by
 have ha:=tB h.ok hf;have e1:G.alloc={G with fr:=r,cont:=λq=>if q=n then .blank else G.cont q}:=by unfold GM.alloc;rw[h0]
 have hh:M.m.head=n:=by rw[h.head,h0];rfl
 have hn:=h.ok.fr n (by rw[h0];simp);have je:=h.ok.nd;rw[h0,aDG]at je;have hch:=h.chain;rw[h0]at hch
 have Bd:r.headD 0<2147483648:=by
  cases r with
  |nil=>simp
  |cons m r=>have:=h.ok.fr m (by rw[h0];simp);have:=h.ok.iv;have:=h.ok.size;simp;omega
 have jW:∀q,(M.xy D).get D q=if q=n then lE else M.get D q:=λq=>by rw[<-hh];exact DZ (M:=M) (M':=M.xy D) (n:=M.m.head) (s:=lE) D rfl rfl rfl q
 have hm:=h.ok.iv;have PJ:=h.fits;rw[h.aE]at PJ;refine⟨⟨by rw[e1];exact h.aE,by rw[e1];exact h.used,by rw[e1];exact h.root,?_,?_,λq=>?_,Ia h.xS _,ha.ok,h.fits,λq hq=>?_,λq hq=>?_,?_,?_,nK h.qH _,λq hq=>?_⟩,hh,pX,by rw[h.free,h0];simp,by rw[hh];omega,by rw[hh];exact h.len n hn.2⟩
 .rw[e1];show og ((M.get D M.m.head).take 4)=r.headD 0;rw[hh,hch.1,xX Bd]
 .rw[e1];show M.m.free-1=r.length;rw[h.free,h0];simp
 .rw[e1];show q∈yZ M.idle M.m.head↔q∈r;rw[FK h.xS,h.idle,h0,hh];constructor
  .rintro⟨h1,h2⟩;rcases aDs.1 h1 with h3|h3
   .exact absurd h3 h2
   .exact h3
  .intro h1;exact⟨abV,λe=>je.1 (e▸h1)⟩
 .rw[jW];split
  .exact pA
  .rw[e1]at hq;exact h.len q hq
 .rw[jW]
  by_cases IX:q=n
  .rw[aDy IX,e1];simp[IX,ix]
  .rw[aDv IX,e1];simp only[IX,aDE];rw[e1]at hq;refine h.cont q ⟨hq.1,hq.2.1,?_⟩;rw[h0];intro h1;rcases aDs.1 h1 with h3|h3
   .exact IX h3
   .exact hq.2.2 h3
 .rw[e1];exact hch.2.congr λq hq=>by rw[jW,aDv (λe:q=n=>je.1 (e▸hq))]
 .show(gW M.now M.m.head lE).map (·.1)=nh M.count M.m.head;rw[sW,h.count]
 .have hu:G.alloc.used=G.used:=by rw[e1]
  rw[hu];rcases(pH M.count M.m.head q).1 hq with h2|rfl
  .exact h.rS q h2
  .rw[hh];exact hn
def rj.drop (h:rj M D G)(hn:G.bS n):rj (M.drop n) D (G.drop n):=by
 have hd:=tn h.ok hn;have jW:∀q,(M.drop n).get D q=if q=n then eY M.m.head else M.get D q:=DZ D rfl rfl rfl
 refine⟨h.aE,h.used,h.root,rfl,?_,λq=>?_,nK h.xS _,hd.ok,h.fits,λq hq=>?_,λq hq=>?_,⟨?_,?_⟩,?_,nK h.qH _,λq hq=>?_⟩
 .show M.m.free+1=(n::G.fr).length;rw[h.free];rfl
 .show q∈nh M.idle n↔q∈n::G.fr;rw[pH,h.idle,aDs];constructor<;>rintro(h1|h1)
  .exact .inr h1
  .exact .inl h1
  .exact .inr h1
  .exact .inl h1
 .rw[jW];split
  .exact rZ _
  .exact h.len q hq
 .obtain⟨a,b⟩:=(hd.bS q).1 hq;rw[jW,aDv b];exact h.cont q a
 .rw[jW,aDy rfl,h.head]
 .exact h.chain.congr λq hq=>by rw[jW,aDv (λe:q=n=>hn.2.2 (e▸hq))]
 .show(gW M.now n (eY M.m.head)).map (·.1)=nh M.count n;rw[sW,h.count]
 .rcases(pH M.count n q).1 hq with h1|rfl
  .exact h.rS q h1
  .exact⟨hn.1,hn.2.1⟩
end
end
structure PI where
 p:Nat
 a:Nat
 lg:CV
 bd:Nat
 bn:Nat
 bi:Nat
 bc:Nat
 Fd:List Nat
 D:aP
 dirty:List (Nat×iJ)
 kept:iA
 first:Nat
def PI.W (π:PI):List Nat:=[π.p,π.bn,π.bi,π.bc]
def PI.all (π:PI):List Nat:=π.p::π.bd::π.bn::π.bi::π.bc::π.Fd
def Pg (π:PI)(st:St)(G:GM):Prop:=∃M,cC st π.p π.a π.lg M π.bd π.bn π.bi π.bc/\rj M π.D G/\cG st π.a π.Fd π.D/\π.D.dead=false/\(∀b∈π.Fd,b∉[π.p,π.bd,π.bn,π.bi,π.bc])/\M.dirty=π.dirty/\M.kept=π.kept/\M.first=π.first
section
variable {π:PI} {st st':St} {G:GM}
def Pg.keep {X:List Nat}(h:Pg π st G)(hk:Kp X st st')(hx:∀b∈π.all,b∉X):Pg π st' G:=by
 obtain⟨M,h1,h2,h3,h4,h5,yB,Ch,Ex⟩:=h;exact⟨M,h1.keep hk λb hb=>hx b (by unfold PI.all;simp at hb⊢;rcases hb with h|h|h|h|h<;>simp[h]),h2,h3.keep hk λb hb=>hx b (by unfold PI.all;simp[hb]),h4,h5,yB,Ch,Ex⟩
def Pg.still (h:Pg π st G)(hk:Kp [] st st'):Pg π st' G:=h.keep hk rq
def Pg.lt (h:Pg π st G):∀b∈π.all,b<st.nx:=by
 obtain⟨M,h1,h2,h3,h4,h5,yB,Ch,Ex⟩:=h;intro b hb;unfold PI.all at hb;simp only[aDs]at hb;rcases hb with h|h|h|h|h|h
 .exact h1.lt b WE
 .exact h1.lt b WE
 .exact h1.lt b WE
 .exact h1.lt b WE
 .exact h1.lt b WE
 .exact h3.lt b h
def Pg.RV (h:Pg π st G):∀b∈π.W,b<st.nx:=λb hb=>h.lt b (by unfold PI.W at hb;unfold PI.all;simp at hb⊢;rcases hb with h|h|h|h<;>simp[h])
def Pg.V5 (h:Pg π st G):uX G:=by obtain⟨M,_,h2,_⟩:=h;exact h2.ok
def Kp.wh {X:List Nat}{a:Nat}{F:List Nat}{D:aP}(h:cG st a F D)(hk:Kp X st st')(hx:∀b∈F,b∉X):cG st' a F D:=h.keep hk hx
def Iv (h:Pg π st G):R 54 [.ptr π.p 0] st λv st'=>v=I G.root/\st'=st:=by
 obtain⟨M,h1,h2,_⟩:=h;refine(SA h1).mono ?_;rintro v s ⟨rfl,rfl⟩;exact⟨by rw[h2.root],rfl⟩
def OE (h:Pg π st G):R 62 [.ptr π.p 0] st λv st'=>v=I G.cP/\st'=st:=by
 obtain⟨M,h1,h2,h3,_⟩:=h;have:=h2.ok.iv;have:=h2.ok.size;have iw:=lI G.used G.fr h2.ok.nd λx hx=>(h2.ok.fr x hx).2;refine(zp h1 (by rw[h2.aE];omega) (by rw[h2.used];omega) (by rw[h2.free];omega)).mono ?_;rintro v s ⟨rfl,rfl⟩;exact⟨by rw[h2.cP],rfl⟩
def sX (h:Pg π st G)(n:Nat)(hn:n=0\/G.bS n):R 49 [.ptr π.p 0,I n] st λv st'=>v=I 0/\Kp π.W st st'/\Pg π st' (G.gO n):=by
 obtain⟨M,h1,h2,h3,h4,h5,yB,Ch,Ex⟩:=h;refine(HX h1 n (hn.imp id λh=>(h2.vn n).2 h)).mono ?_;rintro v s ⟨rfl,k,_,g⟩;exact⟨rfl,k.mono aaY,_,g,h2.gO n,h3.keep k λb hb hh=>h5 b hb adl,h4,h5,yB,Ch,Ex⟩
def OD (h:Pg π st G){n:Nat}(hn:G.bS n):R 137 [.ptr π.p 0,I n] st (Got (ix (G.cont n)) st):=by
 obtain⟨M,h1,h2,h3,h4,h5,yB,Ch,Ex⟩:=h;have hf:=h2.fits;have:=h2.ok.iv;have h6:=h2.cont n hn;have h7:=h2.len n hn.2.1;have:=hn.2.1;have:=OC h1 h3 h4 ((h2.vn n).2 hn) (by rw[h2.aE]at hf;omega) h7;rw[h6]at this;exact this
def JP (h:Pg π st G){n:Nat}(hn:G.bS n){v:CV}{x:PC}(hv:Sl st [π.bn,π.bc] v 1 (aj (ix x)))(hx:(ix x).length=512):R 99 [.ptr π.p 0,I n,v] st λy st'=>y=I 0/\Kp π.W st st'/\Pg π st' (G.put n x):=by
 obtain⟨M,h1,h2,h3,h4,h5,yB,Ch,Ex⟩:=h;refine(LA h1 ((h2.vn n).2 hn) hv hx).mono ?_;rintro y s ⟨rfl,k,_,g⟩;exact⟨rfl,k.mono aaY,_,g,h2.put hn hx,h3.keep k λb hb hh=>h5 b hb (by simp at hh;rcases hh with h|h<;>simp[h]),h4,h5,yB,Ch,Ex⟩
def JQ (h:Pg π st G)(hf:0<G.cP):R 97 [.ptr π.p 0] st λv st'=>v=.tuple [I G.dV,I 0]/\Kp π.W st st'/\Pg π st' G.alloc:=by
 obtain⟨M,h1,h2,h3,h4,h5,yB,Ch,Ex⟩:=h;have:=h2.ok.iv;have:=h2.ok.size;have iw:=lI G.used G.fr h2.ok.nd λx hx=>(h2.ok.fr x hx).2;have b1:M.aE<=1000000:=by rw[h2.aE];omega
 have b2:M.m.used<=1000000:=by rw[h2.used];omega
 have b3:M.m.free<=1000000:=by rw[h2.free];omega
 have b4:M.cP≠0:=by rw[h2.cP];omega
 cases h0:G.fr with
 |nil=>
  have e2:G.dV=G.used:=by unfold GM.dV;rw[h0]
  refine(MP h1 b1 b2 b3 b4 (by rw[h2.head,h0];rfl)).mono ?_;rintro v s ⟨rfl,k,_,g⟩;exact⟨by rw[e2,h2.used],k.mono aaY,_,g,h2.Aw h0 hf,h3.keep k λb hb hh=>h5 b hb (by simp at hh;rcases hh with h|h|h<;>simp[h]),h4,h5,yB,Ch,Ex⟩
 |cons n r=>
  have e2:G.dV=n:=by unfold GM.dV;rw[h0]
  obtain⟨r1,r2,r3,r4,r5,r6⟩:=h2.xy h0 hf;refine(MO h1 h3 h4 b1 b2 b3 b4 r4 r3 r5 r6).mono ?_;rintro v s ⟨rfl,k,g⟩;exact⟨by rw[e2,r2],k.mono aaY,_,g,r1,h3.keep k λb hb hh=>h5 b hb (by simp at hh;rcases hh with h|h|h|h<;>simp[h]),h4,h5,yB,Ch,Ex⟩
def Df (h:Pg π st G){n:Nat}(hn:G.bS n):R 95 [.ptr π.p 0,I n] st λv st'=>v=I 0/\Kp π.W st st'/\Pg π st' (G.drop n):=by
 obtain⟨M,h1,h2,h3,h4,h5,yB,Ch,Ex⟩:=h;have:=h2.ok.iv;have:=h2.ok.size;have iw:=lI G.used G.fr h2.ok.nd λx hx=>(h2.ok.fr x hx).2
 have hh:M.m.head<=1000000:=by
  rw[h2.head];cases h0:G.fr with
  |nil=>simp
  |cons m r=>have:=h2.ok.fr m (by rw[h0];simp);simp;omega
 refine(Um h1 ((h2.vn n).2 hn) (by rw[h2.free];omega) hh).mono ?_;rintro v s ⟨rfl,k,g⟩;exact⟨rfl,k.mono aaY,_,g,h2.drop hn,h3.keep k λb hb hh=>h5 b hb (by simp at hh;rcases hh with h|h|h|h<;>simp[h]),h4,h5,yB,Ch,Ex⟩
end
