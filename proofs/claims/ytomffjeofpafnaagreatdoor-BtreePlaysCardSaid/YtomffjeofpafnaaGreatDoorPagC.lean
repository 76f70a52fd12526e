import Derived.Test.YtomffjeofpafnaaGreatDoorNodeC
namespace Lim
open Go
noncomputable section
set_option maxRecDepth 100000
def ik:PC->jl
 | .node n=>ma n++List.replicate (512-n.size) 0
 | .dL nx d=>be 4 nx++(d++List.replicate (508-d.length) 0)
 | .blank=>kN
theorem GP {n:bg}(h:n.size<=512):(ik (.node n)).length=512:=by
 unfold ik;rw[aAG,aBt];unfold bg.size at*;omega
theorem GQ {nx:Nat}{d:List UInt8}(h:d.length<=508):(ik (.dL nx d)).length=512:=by
 unfold ik;rw[aAG,aAG,aBt,gU];omega
theorem oR (l:List (Nat×jl))(n q:Nat)(s:jl):dg (gD l n s) q=if q=n then some s else dg l q:=by
 induction l with
 |nil=>simp[gD,dg]
 |cons p r ih=>
  simp only[gD]
  split
  ·rename_i h;subst h;simp only[dg];split<;>simp_all
  ·rename_i h;simp only[dg,ih]
   split
   ·rename_i h2;subst h2;rw[aAH (fun e=>h e.symm)]
   ·rfl
theorem eO (M:bS)(D:aT)(n q:Nat)(s:jl)(c:List Nat):({M with now:=gD M.now n s,count:=c}:bS).get D q=if q=n then s else M.get D q:=by
 unfold bS.get;simp only[oR]
 by_cases h:q=n
 ·simp[h]
 ·simp[h]
theorem CY {M M':bS}(D:aT){n:Nat}{s:jl}(h1:M'.now=gD M.now n s)(h2:M'.dirty=M.dirty)(h3:M'.first=M.first)(q:Nat):M'.get D q=if q=n then s else M.get D q:=by
 unfold bS.get;rw[h1,h2,h3,oR]
 by_cases h:q=n
 ·simp[h]
 ·simp[h]
theorem rX (l:List (Nat×jl))(n:Nat)(s:jl):(gD l n s).map (·.1)=mN (l.map (·.1)) n:=by
 induction l with
 |nil=>rfl
 |cons p r ih=>
  simp only[gD,aBh,mN]
  split
  ·rename_i h;simp[h]
  ·simp[ih]
theorem oW (l:List Nat)(n q:Nat):q∈mN l n↔q∈l\/q=n:=by
 induction l with
 |nil=>simp[mN]
 |cons p r ih=>
  simp only[mN]
  split
  ·rename_i h;simp only[aAD];constructor
   ·rintro(h1|h1);exact .inl (.inl h1);exact .inl (.inr h1)
   ·rintro((h1|h1)|h1);exact .inl h1;exact .inr h1;exact .inl (h1.trans h)
  ·simp only[aAD,ih];constructor
   ·rintro(h1|h1|h1);exact .inl (.inl h1);exact .inl (.inr h1);exact .inr h1
   ·rintro((h1|h1)|h1);exact .inl h1;exact .inr (.inl h1);exact .inr (.inr h1)
theorem Ez {l:List Nat}(hn:l.Nodup)(n q:Nat):q∈xZ l n↔q∈l/\q≠n:=by
 induction l with
 |nil=>simp[xZ]
 |cons p r ih=>
  rw[aAQ]at hn;simp only[xZ]
  split
  ·rename_i h;simp only[aAD];constructor
   ·intro h1;exact⟨.inr h1,fun e=>hn.1 (by rw[<-h,<-e];exact h1)⟩
   ·rintro⟨h1|h1,h2⟩;exact absurd (h1.trans h.symm) h2;exact h1
  ·rename_i h;simp only[aAD,ih hn.2];constructor
   ·rintro(h1|⟨h1,h2⟩);exact⟨.inl h1,fun e=>h (e.symm.trans h1)⟩;exact⟨.inr h1,h2⟩
   ·rintro⟨h1|h1,h2⟩;exact .inl h1;exact .inr ⟨h1,h2⟩
theorem nh {l:List Nat}(h:l.Nodup)(n:Nat):(mN l n).Nodup:=by
 induction l with
 |nil=>simp[mN]
 |cons p r ih=>
  rw[aAQ]at h;simp only[mN]
  split
  ·exact aAQ.2 h
  ·rename_i gL;refine aAQ.2 ⟨fun h2=> ?_,ih h.2⟩;rcases(oW r n p).1 h2 with h3|h3
   ·exact h.1 h3
   ·exact gL h3.symm
theorem GR {l:List Nat}(h:l.Nodup)(n:Nat):(xZ l n).Nodup:=by
 induction l with
 |nil=>exact h
 |cons p r ih=>
  have h':=h;rw[aAQ]at h;simp only[xZ]
  split
  ·exact h.2
  ·exact aAQ.2 ⟨fun h2=>h.1 ((Ez h.2 n p).1 h2).1,ih h.2⟩
def LP (M:bS)(D:aT):List Nat->Prop
 |[]=>True
 |n::r=>M.get D n=eN (r.headD 0)/\LP M D r
theorem LP.congr {M M':bS}{D:aT}{l:List Nat}(h:LP M D l)(hg:∀n∈l,M'.get D n=M.get D n):LP M' D l:=by
 induction l with
 |nil=>trivial
 |cons n r ih=>exact⟨(hg n (by simp)).trans h.1,ih h.2 fun m hm=>hg m (by simp[hm])⟩
structure sN (M:bS)(D:aT)(G:GM):Prop where
 aE:M.aE=G.aE
 used:M.m.used=G.used
 root:M.m.root=G.root
 head:M.m.head=G.fr.headD 0
 free:M.m.free=G.fr.length
 idle:∀n,n∈M.idle↔n∈G.fr
 wU:M.idle.Nodup
 ok:um G
 fits:M.first+M.aE<=D.ay.length
 len:∀n,n<G.used->(M.get D n).length=512
 cont:∀n,G.bP n->M.get D n=ik (G.cont n)
 chain:LP M D G.fr
 count:M.now.map (·.1)=M.count
 rC:M.count.Nodup
 tl:∀n∈M.count,0<n/\n<G.used
section
variable {M:bS} {D:aT} {G:GM}
theorem sN.uD (h:sN M D G)(n:Nat):M.bP n↔G.bP n:=by
 unfold bS.bP GM.bP;rw[h.used,h.idle]
theorem sN.cJ (h:sN M D G):M.cJ=(G.cJ:Int):=by
 have:=h.ok.jv;unfold bS.cJ GM.cJ;rw[h.aE,h.used,h.free];omega
theorem sN.put (h:sN M D G){n:Nat}(hn:G.bP n){x:PC}(hx:(ik x).length=512):sN {M with now:=gD M.now n (ik x),count:=mN M.count n} D (G.put n x):=by
 refine⟨h.aE,h.used,h.root,h.head,h.free,h.idle,h.wU,h.ok.put _ _,h.fits,fun q hq=> ?_,fun q hq=> ?_, ?_, ?_,nh h.rC n,fun q hq=> ?_⟩
 ·rw[eO];split
  ·exact hx
  ·exact h.len q hq
 ·rw[eO,yj];split
  ·rfl
  ·exact h.cont q hq
 ·exact h.chain.congr fun q hq=>by rw[eO,aAH (fun e=>hn.2.2 (by rw[<-e];exact hq))]
 ·show(gD M.now n (ik x)).map (·.1)=_;rw[rX,h.count]
 ·rcases(oW M.count n q).1 hq with h1|rfl
  ·exact h.tl q h1
  ·exact⟨hn.1,hn.2.1⟩
theorem sN.gJ (h:sN M D G)(n:Nat):sN {M with m:={M.m with root:=n}} D (G.gJ n):=
 ⟨h.aE,h.used,rfl,h.head,h.free,h.idle,h.wU,h.ok.gJ n,h.fits,h.len,h.cont,h.chain.congr fun _ _=>rfl,h.count,h.rC,h.tl⟩
theorem wZ {n:Nat}(h:n<2147483648):nb ((eN n).take 4)=n:=by
 unfold eN;rw[aBW (gU 4 n)];exact uj 4 n (by omega)
theorem sN.zx (h:sN M D G)(h0:G.fr=[])(hf:0<G.cJ):sN M.zx D G.alloc:=by
 have ha:=sM h.ok hf;have e1:G.alloc={G with used:=G.used+1,cont:=fun q=>if q=G.used then .blank else G.cont q}:=by unfold GM.alloc;rw[h0]
 have nN:∀q,M.zx.get D q=if q=M.m.used then kN else M.get D q:=CY D rfl rfl rfl
 refine⟨by rw[e1];exact h.aE,by rw[e1];show M.m.used+1=G.used+1;rw[h.used],by rw[e1];exact h.root,by rw[e1];exact h.head,by rw[e1];exact h.free,by rw[e1];exact h.idle,h.wU,ha.ok,by have:=h.fits;exact this,fun q hq=> ?_,fun q hq=> ?_, ?_, ?_,nh h.rC _,fun q hq=> ?_⟩
 ·rw[nN];split
  ·exact oO
  ·rename_i gL;refine h.len q ?_;rw[e1]at hq;rw[h.used]at gL;have hq:q<G.used+1:=hq;omega
 ·rw[nN]
  by_cases HC:q=G.used
  ·rw[aAI (by rw[h.used];exact HC),e1];simp[HC,ik]
  ·rw[aAH (by rw[h.used];exact HC),e1];simp only[HC,aAO];rw[e1]at hq;refine h.cont q ⟨hq.1, ?_,by rw[h0];simp⟩;have:=hq.2.1;have:q<G.used+1:=this;omega
 ·rw[e1];show LP _ D G.fr;rw[h0];trivial
 ·show(gD M.now M.m.used kN).map (·.1)=mN M.count M.m.used;rw[rX,h.count]
 ·have hu:G.alloc.used=G.used+1:=by rw[e1]
  rw[hu];have h1:=h.ok.one;rcases(oW M.count M.m.used q).1 hq with h2|rfl
  ·have:=h.tl q h2;omega
  ·rw[h.used];omega
theorem sN.wx (h:sN M D G){n:Nat}{r:List Nat}(h0:G.fr=n::r)(hf:0<G.cJ):sN (M.wx D) D G.alloc/\M.m.head=n/\M.m.head≠0/\0<M.m.free/\M.first+M.m.head<D.ay.length/\(M.get D M.m.head).length=512:=by
 have ha:=sM h.ok hf;have e1:G.alloc={G with fr:=r,cont:=fun q=>if q=n then .blank else G.cont q}:=by unfold GM.alloc;rw[h0]
 have hh:M.m.head=n:=by rw[h.head,h0];rfl
 have hn:=h.ok.fr n (by rw[h0];simp);have iQ:=h.ok.nd;rw[h0,aAQ]at iQ;have hch:=h.chain;rw[h0]at hch
 have Ao:r.headD 0<2147483648:=by
  cases r with
  |nil=>simp
  |cons m r=>have:=h.ok.fr m (by rw[h0];simp);have:=h.ok.jv;have:=h.ok.size;simp;omega
 have nN:∀q,(M.wx D).get D q=if q=n then kN else M.get D q:=fun q=>by rw[<-hh];exact CY (M:=M) (M':=M.wx D) (n:=M.m.head) (s:=kN) D rfl rfl rfl q
 have hm:=h.ok.jv;have NP:=h.fits;rw[h.aE]at NP;refine⟨⟨by rw[e1];exact h.aE,by rw[e1];exact h.used,by rw[e1];exact h.root, ?_, ?_,fun q=> ?_,GR h.wU _,ha.ok,h.fits,fun q hq=> ?_,fun q hq=> ?_, ?_, ?_,nh h.rC _,fun q hq=> ?_⟩,hh,by omega,by rw[h.free,h0];simp,by rw[hh];omega,by rw[hh];exact h.len n hn.2⟩
 ·rw[e1];show nb ((M.get D M.m.head).take 4)=r.headD 0;rw[hh,hch.1,wZ Ao]
 ·rw[e1];show M.m.free-1=r.length;rw[h.free,h0];simp
 ·rw[e1];show q∈xZ M.idle M.m.head↔q∈r;rw[Ez h.wU,h.idle,h0,hh];constructor
  ·rintro⟨h1,h2⟩;rcases aAD.1 h1 with h3|h3
   ·exact absurd h3 h2
   ·exact h3
  ·intro h1;exact⟨by simp[h1],fun e=>iQ.1 (e▸h1)⟩
 ·rw[nN];split
  ·exact oO
  ·rw[e1]at hq;exact h.len q hq
 ·rw[nN]
  by_cases HC:q=n
  ·rw[aAI HC,e1];simp[HC,ik]
  ·rw[aAH HC,e1];simp only[HC,aAO];rw[e1]at hq;refine h.cont q ⟨hq.1,hq.2.1, ?_⟩;rw[h0];intro h1;rcases aAD.1 h1 with h3|h3
   ·exact HC h3
   ·exact hq.2.2 h3
 ·rw[e1];exact hch.2.congr fun q hq=>by rw[nN,aAH (fun e:q=n=>iQ.1 (e▸hq))]
 ·show(gD M.now M.m.head kN).map (·.1)=mN M.count M.m.head;rw[rX,h.count]
 ·have hu:G.alloc.used=G.used:=by rw[e1]
  rw[hu];rcases(oW M.count M.m.head q).1 hq with h2|rfl
  ·exact h.tl q h2
  ·rw[hh];exact hn
theorem sN.drop (h:sN M D G){n:Nat}(hn:G.bP n):sN (M.drop n) D (G.drop n):=by
 have hd:=sE h.ok hn;have nN:∀q,(M.drop n).get D q=if q=n then eN M.m.head else M.get D q:=CY D rfl rfl rfl
 refine⟨h.aE,h.used,h.root,rfl, ?_,fun q=> ?_,nh h.wU _,hd.ok,h.fits,fun q hq=> ?_,fun q hq=> ?_,⟨?_, ?_⟩, ?_,nh h.rC _,fun q hq=> ?_⟩
 ·show M.m.free+1=(n::G.fr).length;rw[h.free];rfl
 ·show q∈mN M.idle n↔q∈n::G.fr;rw[oW,h.idle,aAD];constructor<;>rintro(h1|h1)
  ·exact .inr h1
  ·exact .inl h1
  ·exact .inr h1
  ·exact .inl h1
 ·rw[nN];split
  ·exact rq _
  ·exact h.len q hq
 ·obtain⟨a,b⟩:=(hd.bP q).1 hq;rw[nN,aAH b];exact h.cont q a
 ·rw[nN,aAI rfl,h.head]
 ·exact h.chain.congr fun q hq=>by rw[nN,aAH (fun e:q=n=>hn.2.2 (e▸hq))]
 ·show(gD M.now n (eN M.m.head)).map (·.1)=mN M.count n;rw[rX,h.count]
 ·rcases(oW M.count n q).1 hq with h1|rfl
  ·exact h.tl q h1
  ·exact⟨hn.1,hn.2.1⟩
end
structure PI where
 p:Nat
 a:Nat
 lg:CV
 bd:Nat
 bn:Nat
 bi:Nat
 bc:Nat
 Fd:List Nat
 D:aT
 dirty:List (Nat×jl)
 kept:jB
 first:Nat
def PI.W (π:PI):List Nat:=[π.p,π.bn,π.bi,π.bc]
def PI.all (π:PI):List Nat:=π.p::π.bd::π.bn::π.bi::π.bc::π.Fd
def Pg (π:PI)(st:St)(G:GM):Prop:=∃M,cA st π.p π.a π.lg M π.bd π.bn π.bi π.bc/\sN M π.D G/\du st π.a π.Fd π.D/\π.D.dead=false/\(∀b∈π.Fd,b∉[π.p,π.bd,π.bn,π.bi,π.bc])/\M.dirty=π.dirty/\M.kept=π.kept/\M.first=π.first
section
variable {π:PI} {st st':St} {G:GM}
theorem Pg.keep {X:List Nat}(h:Pg π st G)(hk:Kp X st st')(hx:∀b∈π.all,b∉X):Pg π st' G:=by
 obtain⟨M,h1,h2,h3,h4,h5,za,CU,Gs⟩:=h;exact⟨M,h1.keep hk fun b hb=>hx b (by unfold PI.all;simp at hb⊢;rcases hb with h|h|h|h|h<;>simp[h]),h2,h3.keep hk fun b hb=>hx b (by unfold PI.all;simp[hb]),h4,h5,za,CU,Gs⟩
theorem Pg.still (h:Pg π st G)(hk:Kp [] st st'):Pg π st' G:=h.keep hk (by simp)
theorem Pg.lt (h:Pg π st G):∀b∈π.all,b<st.next:=by
 obtain⟨M,h1,h2,h3,h4,h5,za,CU,Gs⟩:=h;intro b hb;unfold PI.all at hb;simp only[aAD]at hb;rcases hb with h|h|h|h|h|h
 ·exact h1.lt b (by simp[h])
 ·exact h1.lt b (by simp[h])
 ·exact h1.lt b (by simp[h])
 ·exact h1.lt b (by simp[h])
 ·exact h1.lt b (by simp[h])
 ·exact h3.lt b h
theorem Pg.PY (h:Pg π st G):∀b∈π.W,b<st.next:=fun b hb=>h.lt b (by unfold PI.W at hb;unfold PI.all;simp at hb⊢;rcases hb with h|h|h|h<;>simp[h])
theorem Pg.Uh (h:Pg π st G):um G:=by obtain⟨M,_,h2,_⟩:=h;exact h2.ok
theorem Kp.Db {X:List Nat}{a:Nat}{F:List Nat}{D:aT}(h:du st a F D)(hk:Kp X st st')(hx:∀b∈F,b∉X):du st' a F D:=h.keep hk hx
theorem Hg (h:Pg π st G):R 54 [.ptr π.p 0] st fun v st'=>v=I G.root/\st'=st:=by
 obtain⟨M,h1,h2,_⟩:=h;refine(Qy h1).mono ?_;rintro v s ⟨rfl,rfl⟩;exact⟨by rw[h2.root],rfl⟩
theorem ML (h:Pg π st G):R 62 [.ptr π.p 0] st fun v st'=>v=I G.cJ/\st'=st:=by
 obtain⟨M,h1,h2,h3,_⟩:=h;have:=h2.ok.jv;have:=h2.ok.size;have iE:G.fr.length<=G.used:=kR G.used G.fr h2.ok.nd fun x hx=>(h2.ok.fr x hx).2;refine(ym h1 (by rw[h2.aE];omega) (by rw[h2.used];omega) (by rw[h2.free];omega)).mono ?_;rintro v s ⟨rfl,rfl⟩;exact⟨by rw[h2.cJ],rfl⟩
theorem rY (h:Pg π st G)(n:Nat)(hn:n=0\/G.bP n):R 49 [.ptr π.p 0,I n] st fun v st'=>v=I 0/\Kp π.W st st'/\Pg π st' (G.gJ n):=by
 obtain⟨M,h1,h2,h3,h4,h5,za,CU,Gs⟩:=h;refine(GN h1 n (hn.imp id fun h=>(h2.uD n).2 h)).mono ?_;rintro v s ⟨rfl,k,_,g⟩;exact⟨rfl,k.mono (by unfold PI.W;simp),_,g,h2.gJ n,h3.keep k fun b hb hh=>h5 b hb (by simp at hh;simp[hh]),h4,h5,za,CU,Gs⟩
theorem MK (h:Pg π st G){n:Nat}(hn:G.bP n):R 137 [.ptr π.p 0,I n] st (Got (ik (G.cont n)) st):=by
 obtain⟨M,h1,h2,h3,h4,h5,za,CU,Gs⟩:=h;have hf:=h2.fits;have:=h2.ok.jv;have h6:=h2.cont n hn;have h7:=h2.len n hn.2.1;have:=hn.2.1;have:=MI h1 h3 h4 ((h2.uD n).2 hn) (by rw[h2.aE]at hf;omega) h7;rw[h6]at this;exact this
theorem IE (h:Pg π st G){n:Nat}(hn:G.bP n){v:CV}{x:PC}(hv:Sl st [π.bn,π.bc] v 1 (ai (ik x)))(hx:(ik x).length=512):R 99 [.ptr π.p 0,I n,v] st fun y st'=>y=I 0/\Kp π.W st st'/\Pg π st' (G.put n x):=by
 obtain⟨M,h1,h2,h3,h4,h5,za,CU,Gs⟩:=h;refine(JZ h1 ((h2.uD n).2 hn) hv hx).mono ?_;rintro y s ⟨rfl,k,_,g⟩;exact⟨rfl,k.mono (by unfold PI.W;simp),_,g,h2.put hn hx,h3.keep k fun b hb hh=>h5 b hb (by simp at hh;rcases hh with h|h<;>simp[h]),h4,h5,za,CU,Gs⟩
theorem IF (h:Pg π st G)(hf:0<G.cJ):R 97 [.ptr π.p 0] st fun v st'=>v= .tuple [I G.dS,I 0]/\Kp π.W st st'/\Pg π st' G.alloc:=by
 obtain⟨M,h1,h2,h3,h4,h5,za,CU,Gs⟩:=h;have:=h2.ok.jv;have:=h2.ok.size;have iE:G.fr.length<=G.used:=kR G.used G.fr h2.ok.nd fun x hx=>(h2.ok.fr x hx).2;have b1:M.aE<=1000000:=by rw[h2.aE];omega
 have b2:M.m.used<=1000000:=by rw[h2.used];omega
 have b3:M.m.free<=1000000:=by rw[h2.free];omega
 have b4:M.cJ≠0:=by rw[h2.cJ];omega
 cases h0:G.fr with
 |nil=>
  have e2:G.dS=G.used:=by unfold GM.dS;rw[h0]
  refine(Lh h1 b1 b2 b3 b4 (by rw[h2.head,h0];rfl)).mono ?_;rintro v s ⟨rfl,k,_,g⟩;exact⟨by rw[e2,h2.used],k.mono (by unfold PI.W;simp),_,g,h2.zx h0 hf,h3.keep k fun b hb hh=>h5 b hb (by simp at hh;rcases hh with h|h|h<;>simp[h]),h4,h5,za,CU,Gs⟩
 |cons n r=>
  have e2:G.dS=n:=by unfold GM.dS;rw[h0]
  obtain⟨r1,r2,r3,r4,r5,r6⟩:=h2.wx h0 hf;refine(Lg h1 h3 h4 b1 b2 b3 b4 r4 r3 r5 r6).mono ?_;rintro v s ⟨rfl,k,g⟩;exact⟨by rw[e2,r2],k.mono (by unfold PI.W;simp),_,g,r1,h3.keep k fun b hb hh=>h5 b hb (by simp at hh;rcases hh with h|h|h|h<;>simp[h]),h4,h5,za,CU,Gs⟩
theorem Cc (h:Pg π st G){n:Nat}(hn:G.bP n):R 95 [.ptr π.p 0,I n] st fun v st'=>v=I 0/\Kp π.W st st'/\Pg π st' (G.drop n):=by
 obtain⟨M,h1,h2,h3,h4,h5,za,CU,Gs⟩:=h;have:=h2.ok.jv;have:=h2.ok.size;have iE:G.fr.length<=G.used:=kR G.used G.fr h2.ok.nd fun x hx=>(h2.ok.fr x hx).2
 have hh:M.m.head<=1000000:=by
  rw[h2.head];cases h0:G.fr with
  |nil=>simp
  |cons m r=>have:=h2.ok.fr m (by rw[h0];simp);simp;omega
 refine(Sh h1 ((h2.uD n).2 hn) (by rw[h2.free];omega) hh).mono ?_;rintro v s ⟨rfl,k,g⟩;exact⟨rfl,k.mono (by unfold PI.W;simp),_,g,h2.drop hn,h3.keep k fun b hb hh=>h5 b hb (by simp at hh;rcases hh with h|h|h|h<;>simp[h]),h4,h5,za,CU,Gs⟩
end
