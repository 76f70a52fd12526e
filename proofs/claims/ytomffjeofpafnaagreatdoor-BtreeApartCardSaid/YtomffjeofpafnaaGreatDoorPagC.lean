import Derived.Test.YtomffjeofpafnaaGreatDoorNodeC
namespace Lim
open Go
noncomputable section
set_option maxRecDepth 100000
def il:PC->jk
 | .node n=>lY n++List.replicate (512-n.size) 0
 | .dL nx d=>be 4 nx++(d++List.replicate (508-d.length) 0)
 | .blank=>iN
theorem Hh {n:aZ}(h:n.size<=512):(il (.node n)).length=512:=by
 unfold il;rw[aAY,aBz];unfold aZ.size at*;omega
theorem Hi {nx:Nat}{d:List UInt8}(h:d.length<=508):(il (.dL nx d)).length=512:=by
 unfold il;rw[aAY,aAY,aBz,gV];omega
theorem oZ (l:List (Nat×jk))(n q:Nat)(s:jk):dh (gH l n s) q=if q=n then some s else dh l q:=by
 induction l with
 |nil=>simp[gH,dh]
 |cons p r ih=>
  simp only[gH]
  split
  ·rename_i h;subst h;simp only[dh];split<;>simp_all
  ·rename_i h;simp only[dh,ih]
   split
   ·rename_i h2;subst h2;rw[aAZ (fun e=>h e.symm)]
   ·rfl
theorem eO (M:bR)(D:aV)(n q:Nat)(s:jk)(c:List Nat):({M with now:=gH M.now n s,count:=c}:bR).get D q=if q=n then s else M.get D q:=by
 unfold bR.get;simp only[oZ]
 by_cases h:q=n
 ·simp[h]
 ·simp[h]
theorem Dx {M M':bR}(D:aV){n:Nat}{s:jk}(h1:M'.now=gH M.now n s)(h2:M'.dirty=M.dirty)(h3:M'.first=M.first)(q:Nat):M'.get D q=if q=n then s else M.get D q:=by
 unfold bR.get;rw[h1,h2,h3,oZ]
 by_cases h:q=n
 ·simp[h]
 ·simp[h]
theorem sy (l:List (Nat×jk))(n:Nat)(s:jk):(gH l n s).map (·.1)=mI (l.map (·.1)) n:=by
 induction l with
 |nil=>rfl
 |cons p r ih=>
  simp only[gH,aBA,mI]
  split
  ·rename_i h;simp[h]
  ·simp[ih]
theorem pw (l:List Nat)(n q:Nat):q∈mI l n↔q∈l\/q=n:=by
 induction l with
 |nil=>simp[mI]
 |cons p r ih=>
  simp only[mI]
  split
  ·rename_i h;simp only[aAX];constructor
   ·rintro(h1|h1);exact .inl (.inl h1);exact .inl (.inr h1)
   ·rintro((h1|h1)|h1);exact .inl h1;exact .inr h1;exact .inl (h1.trans h)
  ·simp only[aAX,ih];constructor
   ·rintro(h1|h1|h1);exact .inl (.inl h1);exact .inl (.inr h1);exact .inr h1
   ·rintro((h1|h1)|h1);exact .inl h1;exact .inr (.inl h1);exact .inr (.inr h1)
theorem ET {l:List Nat}(hn:l.Nodup)(n q:Nat):q∈yx l n↔q∈l/\q≠n:=by
 induction l with
 |nil=>simp[yx]
 |cons p r ih=>
  rw[aBi]at hn;simp only[yx]
  split
  ·rename_i h;simp only[aAX];constructor
   ·intro h1;exact⟨.inr h1,fun e=>hn.1 (by rw[<-h,<-e];exact h1)⟩
   ·rintro⟨h1|h1,h2⟩;exact absurd (h1.trans h.symm) h2;exact h1
  ·rename_i h;simp only[aAX,ih hn.2];constructor
   ·rintro(h1|⟨h1,h2⟩);exact⟨.inl h1,fun e=>h (e.symm.trans h1)⟩;exact⟨.inr h1,h2⟩
   ·rintro⟨h1|h1,h2⟩;exact .inl h1;exact .inr ⟨h1,h2⟩
theorem ng {l:List Nat}(h:l.Nodup)(n:Nat):(mI l n).Nodup:=by
 induction l with
 |nil=>simp[mI]
 |cons p r ih=>
  rw[aBi]at h;simp only[mI]
  split
  ·exact aBi.2 h
  ·rename_i gT;refine aBi.2 ⟨fun h2=> ?_,ih h.2⟩;rcases(pw r n p).1 h2 with h3|h3
   ·exact h.1 h3
   ·exact gT h3.symm
theorem Hj {l:List Nat}(h:l.Nodup)(n:Nat):(yx l n).Nodup:=by
 induction l with
 |nil=>exact h
 |cons p r ih=>
  have h':=h;rw[aBi]at h;simp only[yx]
  split
  ·exact h.2
  ·exact aBi.2 ⟨fun h2=>h.1 ((ET h.2 n p).1 h2).1,ih h.2⟩
def Mj (M:bR)(D:aV):List Nat->Prop
 |[]=>True
 |n::r=>M.get D n=eN (r.headD 0)/\Mj M D r
theorem Mj.congr {M M':bR}{D:aV}{l:List Nat}(h:Mj M D l)(hg:∀n∈l,M'.get D n=M.get D n):Mj M' D l:=by
 induction l with
 |nil=>trivial
 |cons n r ih=>exact⟨(hg n (by simp)).trans h.1,ih h.2 fun m hm=>hg m (by simp[hm])⟩
structure tm (M:bR)(D:aV)(G:GM):Prop where
 aE:M.aE=G.aE
 used:M.m.used=G.used
 root:M.m.root=G.root
 head:M.m.head=G.fr.headD 0
 free:M.m.free=G.fr.length
 idle:∀n,n∈M.idle↔n∈G.fr
 xe:M.idle.Nodup
 ok:tP G
 fits:M.first+M.aE<=D.ay.length
 len:∀n,n<G.used->(M.get D n).length=512
 cont:∀n,G.bL n->M.get D n=il (G.cont n)
 chain:Mj M D G.fr
 count:M.now.map (·.1)=M.count
 qt:M.count.Nodup
 rp:∀n∈M.count,0<n/\n<G.used
section
variable {M:bR} {D:aV} {G:GM}
theorem tm.uH (h:tm M D G)(n:Nat):M.bL n↔G.bL n:=by
 unfold bR.bL GM.bL;rw[h.used,h.idle]
theorem tm.ck (h:tm M D G):M.ck=(G.ck:Int):=by
 have:=h.ok.jF;unfold bR.ck GM.ck;rw[h.aE,h.used,h.free];omega
theorem tm.put (h:tm M D G){n:Nat}(hn:G.bL n){x:PC}(hx:(il x).length=512):tm {M with now:=gH M.now n (il x),count:=mI M.count n} D (G.put n x):=by
 refine⟨h.aE,h.used,h.root,h.head,h.free,h.idle,h.xe,h.ok.put _ _,h.fits,fun q hq=> ?_,fun q hq=> ?_, ?_, ?_,ng h.qt n,fun q hq=> ?_⟩
 ·rw[eO];split
  ·exact hx
  ·exact h.len q hq
 ·rw[eO,yI];split
  ·rfl
  ·exact h.cont q hq
 ·exact h.chain.congr fun q hq=>by rw[eO,aAZ (fun e=>hn.2.2 (by rw[<-e];exact hq))]
 ·show(gH M.now n (il x)).map (·.1)=_;rw[sy,h.count]
 ·rcases(pw M.count n q).1 hq with h1|rfl
  ·exact h.rp q h1
  ·exact⟨hn.1,hn.2.1⟩
theorem tm.gD (h:tm M D G)(n:Nat):tm {M with m:={M.m with root:=n}} D (G.gD n):=
 ⟨h.aE,h.used,rfl,h.head,h.free,h.idle,h.xe,h.ok.gD n,h.fits,h.len,h.cont,h.chain.congr fun _ _=>rfl,h.count,h.qt,h.rp⟩
theorem xi {n:Nat}(h:n<2147483648):mY ((eN n).take 4)=n:=by
 unfold eN;rw[aCm (gV 4 n)];exact ux 4 n (by omega)
theorem tm.zS (h:tm M D G)(h0:G.fr=[])(hf:0<G.ck):tm M.zS D G.alloc:=by
 have ha:=qu h.ok hf;have e1:G.alloc={G with used:=G.used+1,cont:=fun q=>if q=G.used then .blank else G.cont q}:=by unfold GM.alloc;rw[h0]
 have nY:∀q,M.zS.get D q=if q=M.m.used then iN else M.get D q:=Dx D rfl rfl rfl
 refine⟨by rw[e1];exact h.aE,by rw[e1];show M.m.used+1=G.used+1;rw[h.used],by rw[e1];exact h.root,by rw[e1];exact h.head,by rw[e1];exact h.free,by rw[e1];exact h.idle,h.xe,ha.ok,by have:=h.fits;exact this,fun q hq=> ?_,fun q hq=> ?_, ?_, ?_,ng h.qt _,fun q hq=> ?_⟩
 ·rw[nY];split
  ·exact oW
  ·rename_i gT;refine h.len q ?_;rw[e1]at hq;rw[h.used]at gT;have hq:q<G.used+1:=hq;omega
 ·rw[nY]
  by_cases HV:q=G.used
  ·rw[aBb (by rw[h.used];exact HV),e1];simp[HV,il]
  ·rw[aAZ (by rw[h.used];exact HV),e1];simp only[HV,aBf];rw[e1]at hq;refine h.cont q ⟨hq.1, ?_,by rw[h0];simp⟩;have:=hq.2.1;have:q<G.used+1:=this;omega
 ·rw[e1];show Mj _ D G.fr;rw[h0];trivial
 ·show(gH M.now M.m.used iN).map (·.1)=mI M.count M.m.used;rw[sy,h.count]
 ·have hu:G.alloc.used=G.used+1:=by rw[e1]
  rw[hu];have h1:=h.ok.one;rcases(pw M.count M.m.used q).1 hq with h2|rfl
  ·have:=h.rp q h2;omega
  ·rw[h.used];omega
theorem tm.wG (h:tm M D G){n:Nat}{r:List Nat}(h0:G.fr=n::r)(hf:0<G.ck):tm (M.wG D) D G.alloc/\M.m.head=n/\M.m.head≠0/\0<M.m.free/\M.first+M.m.head<D.ay.length/\(M.get D M.m.head).length=512:=by
 have ha:=qu h.ok hf;have e1:G.alloc={G with fr:=r,cont:=fun q=>if q=n then .blank else G.cont q}:=by unfold GM.alloc;rw[h0]
 have hh:M.m.head=n:=by rw[h.head,h0];rfl
 have hn:=h.ok.fr n (by rw[h0];simp);have iL:=h.ok.nd;rw[h0,aBi]at iL;have hch:=h.chain;rw[h0]at hch
 have AP:r.headD 0<2147483648:=by
  cases r with
  |nil=>simp
  |cons m r=>have:=h.ok.fr m (by rw[h0];simp);have:=h.ok.jF;have:=h.ok.size;simp;omega
 have nY:∀q,(M.wG D).get D q=if q=n then iN else M.get D q:=fun q=>by rw[<-hh];exact Dx (M:=M) (M':=M.wG D) (n:=M.m.head) (s:=iN) D rfl rfl rfl q
 have hm:=h.ok.jF;have O2:=h.fits;rw[h.aE]at O2;refine⟨⟨by rw[e1];exact h.aE,by rw[e1];exact h.used,by rw[e1];exact h.root, ?_, ?_,fun q=> ?_,Hj h.xe _,ha.ok,h.fits,fun q hq=> ?_,fun q hq=> ?_, ?_, ?_,ng h.qt _,fun q hq=> ?_⟩,hh,by omega,by rw[h.free,h0];simp,by rw[hh];omega,by rw[hh];exact h.len n hn.2⟩
 ·rw[e1];show mY ((M.get D M.m.head).take 4)=r.headD 0;rw[hh,hch.1,xi AP]
 ·rw[e1];show M.m.free-1=r.length;rw[h.free,h0];simp
 ·rw[e1];show q∈yx M.idle M.m.head↔q∈r;rw[ET h.xe,h.idle,h0,hh];constructor
  ·rintro⟨h1,h2⟩;rcases aAX.1 h1 with h3|h3
   ·exact absurd h3 h2
   ·exact h3
  ·intro h1;exact⟨by simp[h1],fun e=>iL.1 (e▸h1)⟩
 ·rw[nY];split
  ·exact oW
  ·rw[e1]at hq;exact h.len q hq
 ·rw[nY]
  by_cases HV:q=n
  ·rw[aBb HV,e1];simp[HV,il]
  ·rw[aAZ HV,e1];simp only[HV,aBf];rw[e1]at hq;refine h.cont q ⟨hq.1,hq.2.1, ?_⟩;rw[h0];intro h1;rcases aAX.1 h1 with h3|h3
   ·exact HV h3
   ·exact hq.2.2 h3
 ·rw[e1];exact hch.2.congr fun q hq=>by rw[nY,aAZ (fun e:q=n=>iL.1 (e▸hq))]
 ·show(gH M.now M.m.head iN).map (·.1)=mI M.count M.m.head;rw[sy,h.count]
 ·have hu:G.alloc.used=G.used:=by rw[e1]
  rw[hu];rcases(pw M.count M.m.head q).1 hq with h2|rfl
  ·exact h.rp q h2
  ·rw[hh];exact hn
theorem tm.drop (h:tm M D G){n:Nat}(hn:G.bL n):tm (M.drop n) D (G.drop n):=by
 have hd:=sM h.ok hn;have nY:∀q,(M.drop n).get D q=if q=n then eN M.m.head else M.get D q:=Dx D rfl rfl rfl
 refine⟨h.aE,h.used,h.root,rfl, ?_,fun q=> ?_,ng h.xe _,hd.ok,h.fits,fun q hq=> ?_,fun q hq=> ?_,⟨?_, ?_⟩, ?_,ng h.qt _,fun q hq=> ?_⟩
 ·show M.m.free+1=(n::G.fr).length;rw[h.free];rfl
 ·show q∈mI M.idle n↔q∈n::G.fr;rw[pw,h.idle,aAX];constructor<;>rintro(h1|h1)
  ·exact .inr h1
  ·exact .inl h1
  ·exact .inr h1
  ·exact .inl h1
 ·rw[nY];split
  ·exact rE _
  ·exact h.len q hq
 ·obtain⟨a,b⟩:=(hd.bL q).1 hq;rw[nY,aAZ b];exact h.cont q a
 ·rw[nY,aBb rfl,h.head]
 ·exact h.chain.congr fun q hq=>by rw[nY,aAZ (fun e:q=n=>hn.2.2 (e▸hq))]
 ·show(gH M.now n (eN M.m.head)).map (·.1)=mI M.count n;rw[sy,h.count]
 ·rcases(pw M.count n q).1 hq with h1|rfl
  ·exact h.rp q h1
  ·exact⟨hn.1,hn.2.1⟩
end
structure PI where
 p:Nat
 a:Nat
 lg:CV
 bd:Nat
 bn:Nat
 bi:Nat
 bc:Nat
 Fd:List Nat
 D:aV
 dirty:List (Nat×jk)
 kept:jA
 first:Nat
def PI.W (π:PI):List Nat:=[π.p,π.bn,π.bi,π.bc]
def PI.all (π:PI):List Nat:=π.p::π.bd::π.bn::π.bi::π.bc::π.Fd
def Pg (π:PI)(st:St)(G:GM):Prop:=∃M,cG st π.p π.a π.lg M π.bd π.bn π.bi π.bc/\tm M π.D G/\dt st π.a π.Fd π.D/\π.D.dead=false/\(∀b∈π.Fd,b∉[π.p,π.bd,π.bn,π.bi,π.bc])/\M.dirty=π.dirty/\M.kept=π.kept/\M.first=π.first
section
variable {π:PI} {st st':St} {G:GM}
theorem Pg.keep {X:List Nat}(h:Pg π st G)(hk:Kp X st st')(hx:∀b∈π.all,b∉X):Pg π st' G:=by
 obtain⟨M,h1,h2,h3,h4,h5,zt,Dv,GQ⟩:=h;exact⟨M,h1.keep hk fun b hb=>hx b (by unfold PI.all;simp at hb⊢;rcases hb with h|h|h|h|h<;>simp[h]),h2,h3.keep hk fun b hb=>hx b (by unfold PI.all;simp[hb]),h4,h5,zt,Dv,GQ⟩
theorem Pg.still (h:Pg π st G)(hk:Kp [] st st'):Pg π st' G:=h.keep hk (by simp)
theorem Pg.lt (h:Pg π st G):∀b∈π.all,b<st.next:=by
 obtain⟨M,h1,h2,h3,h4,h5,zt,Dv,GQ⟩:=h;intro b hb;unfold PI.all at hb;simp only[aAX]at hb;rcases hb with h|h|h|h|h|h
 ·exact h1.lt b (by simp[h])
 ·exact h1.lt b (by simp[h])
 ·exact h1.lt b (by simp[h])
 ·exact h1.lt b (by simp[h])
 ·exact h1.lt b (by simp[h])
 ·exact h3.lt b h
theorem Pg.LR (h:Pg π st G):∀b∈π.W,b<st.next:=fun b hb=>h.lt b (by unfold PI.W at hb;unfold PI.all;simp at hb⊢;rcases hb with h|h|h|h<;>simp[h])
theorem Pg.Vd (h:Pg π st G):tP G:=by obtain⟨M,_,h2,_⟩:=h;exact h2.ok
theorem Kp.DB {X:List Nat}{a:Nat}{F:List Nat}{D:aV}(h:dt st a F D)(hk:Kp X st st')(hx:∀b∈F,b∉X):dt st' a F D:=h.keep hk hx
theorem HA (h:Pg π st G):R 54 [.ptr π.p 0] st fun v st'=>v=I G.root/\st'=st:=by
 obtain⟨M,h1,h2,_⟩:=h;refine(RH h1).mono ?_;rintro v s ⟨rfl,rfl⟩;exact⟨by rw[h2.root],rfl⟩
theorem NK (h:Pg π st G):R 62 [.ptr π.p 0] st fun v st'=>v=I G.ck/\st'=st:=by
 obtain⟨M,h1,h2,h3,_⟩:=h;have:=h2.ok.jF;have:=h2.ok.size;have jy:G.fr.length<=G.used:=kQ G.used G.fr h2.ok.nd fun x hx=>(h2.ok.fr x hx).2;refine(yL h1 (by rw[h2.aE];omega) (by rw[h2.used];omega) (by rw[h2.free];omega)).mono ?_;rintro v s ⟨rfl,rfl⟩;exact⟨by rw[h2.ck],rfl⟩
theorem pe (h:Pg π st G)(n:Nat)(hn:n=0\/G.bL n):R 49 [.ptr π.p 0,I n] st fun v st'=>v=I 0/\Kp π.W st st'/\Pg π st' (G.gD n):=by
 obtain⟨M,h1,h2,h3,h4,h5,zt,Dv,GQ⟩:=h;refine(Hf h1 n (hn.imp id fun h=>(h2.uH n).2 h)).mono ?_;rintro v s ⟨rfl,k,_,g⟩;exact⟨rfl,k.mono (by unfold PI.W;simp),_,g,h2.gD n,h3.keep k fun b hb hh=>h5 b hb (by simp at hh;simp[hh]),h4,h5,zt,Dv,GQ⟩
theorem NJ (h:Pg π st G){n:Nat}(hn:G.bL n):R 137 [.ptr π.p 0,I n] st (Got (il (G.cont n)) st):=by
 obtain⟨M,h1,h2,h3,h4,h5,zt,Dv,GQ⟩:=h;have hf:=h2.fits;have:=h2.ok.jF;have h6:=h2.cont n hn;have h7:=h2.len n hn.2.1;have:=hn.2.1;have:=NH h1 h3 h4 ((h2.uH n).2 hn) (by rw[h2.aE]at hf;omega) h7;rw[h6]at this;exact this
theorem I2 (h:Pg π st G){n:Nat}(hn:G.bL n){v:CV}{x:PC}(hv:Sl st [π.bn,π.bc] v 1 (ai (il x)))(hx:(il x).length=512):R 99 [.ptr π.p 0,I n,v] st fun y st'=>y=I 0/\Kp π.W st st'/\Pg π st' (G.put n x):=by
 obtain⟨M,h1,h2,h3,h4,h5,zt,Dv,GQ⟩:=h;refine(Kz h1 ((h2.uH n).2 hn) hv hx).mono ?_;rintro y s ⟨rfl,k,_,g⟩;exact⟨rfl,k.mono (by unfold PI.W;simp),_,g,h2.put hn hx,h3.keep k fun b hb hh=>h5 b hb (by simp at hh;rcases hh with h|h<;>simp[h]),h4,h5,zt,Dv,GQ⟩
theorem I3 (h:Pg π st G)(hf:0<G.ck):R 97 [.ptr π.p 0] st fun v st'=>v= .tuple [I G.dG,I 0]/\Kp π.W st st'/\Pg π st' G.alloc:=by
 obtain⟨M,h1,h2,h3,h4,h5,zt,Dv,GQ⟩:=h;have:=h2.ok.jF;have:=h2.ok.size;have jy:G.fr.length<=G.used:=kQ G.used G.fr h2.ok.nd fun x hx=>(h2.ok.fr x hx).2;have b1:M.aE<=1000000:=by rw[h2.aE];omega
 have b2:M.m.used<=1000000:=by rw[h2.used];omega
 have b3:M.m.free<=1000000:=by rw[h2.free];omega
 have b4:M.ck≠0:=by rw[h2.ck];omega
 cases h0:G.fr with
 |nil=>
  have e2:G.dG=G.used:=by unfold GM.dG;rw[h0]
  refine(LQ h1 b1 b2 b3 b4 (by rw[h2.head,h0];rfl)).mono ?_;rintro v s ⟨rfl,k,_,g⟩;exact⟨by rw[e2,h2.used],k.mono (by unfold PI.W;simp),_,g,h2.zS h0 hf,h3.keep k fun b hb hh=>h5 b hb (by simp at hh;rcases hh with h|h|h<;>simp[h]),h4,h5,zt,Dv,GQ⟩
 |cons n r=>
  have e2:G.dG=n:=by unfold GM.dG;rw[h0]
  obtain⟨r1,r2,r3,r4,r5,r6⟩:=h2.wG h0 hf;refine(LP h1 h3 h4 b1 b2 b3 b4 r4 r3 r5 r6).mono ?_;rintro v s ⟨rfl,k,g⟩;exact⟨by rw[e2,r2],k.mono (by unfold PI.W;simp),_,g,r1,h3.keep k fun b hb hh=>h5 b hb (by simp at hh;rcases hh with h|h|h|h<;>simp[h]),h4,h5,zt,Dv,GQ⟩
theorem CA (h:Pg π st G){n:Nat}(hn:G.bL n):R 95 [.ptr π.p 0,I n] st fun v st'=>v=I 0/\Kp π.W st st'/\Pg π st' (G.drop n):=by
 obtain⟨M,h1,h2,h3,h4,h5,zt,Dv,GQ⟩:=h;have:=h2.ok.jF;have:=h2.ok.size;have jy:G.fr.length<=G.used:=kQ G.used G.fr h2.ok.nd fun x hx=>(h2.ok.fr x hx).2
 have hh:M.m.head<=1000000:=by
  rw[h2.head];cases h0:G.fr with
  |nil=>simp
  |cons m r=>have:=h2.ok.fr m (by rw[h0];simp);simp;omega
 refine(Tn h1 ((h2.uH n).2 hn) (by rw[h2.free];omega) hh).mono ?_;rintro v s ⟨rfl,k,g⟩;exact⟨rfl,k.mono (by unfold PI.W;simp),_,g,h2.drop hn,h3.keep k fun b hb hh=>h5 b hb (by simp at hh;rcases hh with h|h|h|h<;>simp[h]),h4,h5,zt,Dv,GQ⟩
end
