import Derived.Test.YtckodcbgpffimaaGreatDoorNodeC
namespace Lim
open Go
noncomputable section
set_option linter.defProp false
set_option maxRecDepth 100000
def jE:PC->kh
 | .node n=>oo n++List.replicate (512-n.size) 0
 | .dX nx d=>be 4 nx++(d++List.replicate (508-d.length) 0)
 | .blank=>mq
def KD {n:bp}(h:n.size<=512):(jE (.node n)).length=512:=by
 unfold jE;rw[km,F0];unfold bp.size at*;omega
def KE {nx:Nat}{d:δ Γ}(h:d.length<=508):(jE (.dX nx d)).length=512:=by
 unfold jE;rw[km,km,F0,kV];omega
def rJ (l:δ (Nat×kh))(n q:Nat)(s:kh):dm (jr l n s) q=if q=n then Φ s else dm l q:=by
 induction l with
 |nil=>simp[jr,dm]
 |cons p r a=>
  simp only[jr]
  split
  .rename_i h;subst h;simp only[dm];split<;>simp_all
  .rename_i h;simp only[dm,a]
   split
   .rename_i h2;subst h2;rw[B (λe=>h e.symm)]
   .rfl
def fw (M:cA)(D:aX)(n q:Nat)(s:kh)(c:δ Nat):({M with now:=jr M.now n s,count:=c}:cA).get D q=if q=n then s else M.get D q:=by
 unfold cA.get;simp only[rJ]
 by_cases h:q=n
 .simp[h]
 .simp[h]
def GB {M M':cA}(D:aX){n:Nat}{s:kh}(c:M'.now=jr M.now n s)(b:M'.cC=M.cC)(a:M'.first=M.first)(q:Nat):M'.get D q=if q=n then s else M.get D q:=by
 unfold cA.get;rw[c,b,a,rJ]
 by_cases h:q=n
 .simp[h]
 .simp[h]
def ve (l:δ (Nat×kh))(n:Nat)(s:kh):(jr l n s).map (·.1)=ib (l.map (·.1)) n:=by
 induction l with
 |nil=>rfl
 |cons p r a=>
  simp only[jr,pw,ib]
  split
  .rename_i h;simp[h]
  .simp[a]
def rR (l:δ Nat)(n q:Nat):q∈ib l n↔q∈l\/q=n:=by
 induction l with
 |nil=>simp[ib]
 |cons p r a=>
  simp only[ib]
  split
  .rename_i h;simp only[ip];constructor
   .rintro(h1|h1);exact .inl (.inl h1);exact .inl (.inr h1)
   .rintro((h1|h1)|h1);exact .inl h1;exact .inr h1;exact .inl (h1.trans h)
  .simp only[ip,a];constructor
   .rintro(h1|h1|h1);exact .inl (.inl h1);exact .inl (.inr h1);exact .inr h1
   .rintro((h1|h1)|h1);exact .inl h1;exact .inr (.inl h1);exact .inr (.inr h1)
def Iy {l:δ Nat}(a:l.Nodup)(n q:Nat):q∈A4 l n↔q∈l/\q≠n:=by
 induction l with
 |nil=>simp[A4]
 |cons p r b=>
  rw[me]at a;simp only[A4]
  split
  .rename_i h;simp only[ip];constructor
   .intro h1;exact⟨.inr h1,λe=>a.1 (by rw[<-h,<-e];exact h1)⟩
   .rintro⟨h1|h1,h2⟩;exact absurd (h1.trans h.symm) h2;exact h1
  .rename_i h;simp only[ip,b a.2];constructor
   .rintro(h1|⟨h1,h2⟩);exact⟨.inl h1,λe=>h (e.symm.trans h1)⟩;exact⟨.inr h1,h2⟩
   .rintro⟨h1|h1,h2⟩;exact .inl h1;exact .inr ⟨h1,h2⟩
def pU {l:δ Nat}(h:l.Nodup)(n:Nat):(ib l n).Nodup:=by
 induction l with
 |nil=>simp[ib]
 |cons p r c=>
  rw[me]at h;simp only[ib]
  split
  .exact me.2 h
  .rename_i b;refine me.2 ⟨λd=>?_,c h.2⟩;rcases(rR r n p).1 d with a|a
   .exact h.1 a
   .exact b a.symm
def KF {l:δ Nat}(h:l.Nodup)(n:Nat):(A4 l n).Nodup:=by
 induction l with
 |nil=>exact h
 |cons p r a=>
  have c:=h;rw[me]at h;simp only[A4]
  split
  .exact h.2
  .exact me.2 ⟨λb=>h.1 ((Iy h.2 n p).1 b).1,a h.2⟩
def Vr (M:cA)(D:aX):δ Nat->Prop
 |[]=>True
 |n::r=>M.get D n=lq (r.headD 0)/\Vr M D r
def Vr.congr {M M':cA}{D:aX}{l:δ Nat}(h:Vr M D l)(a:∀n∈l,M'.get D n=M.get D n):Vr M' D l:=by
 induction l with
 |nil=>trivial
 |cons n r b=>exact⟨(a n V).trans h.1,b h.2 λm c=>a m (by simp[c])⟩
structure tT (M:cA)(D:aX)(G:GM):Prop where
 aO:M.aO=G.aO
 used:M.m.used=G.used
 root:M.m.root=G.root
 head:M.m.head=G.fr.headD 0
 free:M.m.free=G.fr.length
 idle:∀n,n∈M.idle↔n∈G.fr
 Aa:M.idle.Nodup
 ok:wb G
 fits:M.first+M.aO<=D.aB.length
 len:∀n,n<G.used->(M.get D n).length=512
 cont:∀n,G.bV n->M.get D n=jE (G.cont n)
 chain:Vr M D G.fr
 count:M.now.map (·.1)=M.count
 uJ:M.count.Nodup
 wo:∀n∈M.count,0<n/\n<G.used
 eu:M.count=G.eu
section
variable {M:cA} {D:aX} {G:GM}
def tT.xL (h:tT M D G)(n:Nat):M.bV n↔G.bV n:=by
 unfold cA.bV GM.bV;rw[h.used,h.idle]
def tT.bT (h:tT M D G):M.bT=(G.bT:Int):=by
 have:=h.ok.jT;unfold cA.bT GM.bT;rw[h.aO,h.used,h.free];omega
def tT.put (h:tT M D G){n:Nat}(b:G.bV n){x:PC}(c:(jE x).length=512):tT {M with now:=jr M.now n (jE x),count:=ib M.count n} D (G.put n x):=by
 refine⟨h.aO,h.used,h.root,h.head,h.free,h.idle,h.Aa,h.ok.put _ _,h.fits,λq a=>?_,λq a=>?_,?_,?_,pU h.uJ n,λq a=>?_,by show ib M.count n=ib G.eu n;rw[h.eu]⟩
 .rw[fw];split
  .exact c
  .exact h.len q a
 .rw[fw,Be];split
  .rfl
  .exact h.cont q a
 .exact h.chain.congr λq a=>by rw[fw,B (λe=>b.2.2 (by rw[<-e];exact a))]
 .show(jr M.now n (jE x)).map (·.1)=_;rw[ve,h.count]
 .rcases(rR M.count n q).1 a with h1|rfl
  .exact h.wo q h1
  .exact⟨b.1,b.2.1⟩
def tT.eS (h:tT M D G)(n:Nat):tT {M with m:={M.m with root:=n}} D (G.eS n):=
 ⟨h.aO,h.used,rfl,h.head,h.free,h.idle,h.Aa,h.ok.eS n,h.fits,h.len,h.cont,h.chain.congr λ_ _=>rfl,h.count,h.uJ,h.wo,h.eu⟩
def I9 {n:Nat}(h:n<2147483648):tL ((lq n).take 4)=n:=by
 unfold lq;rw[SM (kV 4 n)];exact Uz 4 n J
def tT.Cs (h:tT M D G)(d:G.fr=[])(g:0<G.bT):tT M.Cs D G.alloc:=by
 have i:=vL h.ok g;have a:G.alloc={G with used:=G.used+1,cont:=λq=>if q=G.used then .blank else G.cont q,eu:=ib G.eu G.used}:=by unfold GM.alloc;rw[d]
 have e:∀q,M.Cs.get D q=if q=M.m.used then mq else M.get D q:=GB D rfl rfl rfl
 refine⟨by rw[a];exact h.aO,by rw[a];show M.m.used+1=G.used+1;rw[h.used],by rw[a];exact h.root,by rw[a];exact h.head,by rw[a];exact h.free,by rw[a];exact h.idle,h.Aa,i.ok,by have:=h.fits;exact this,λq b=>?_,λq b=>?_,?_,?_,pU h.uJ _,λq b=>?_,by rw[a];show ib M.count M.m.used=ib G.eu G.used;rw[h.eu,h.used]⟩
 .rw[e];split
  .exact rH
  .rename_i f;refine h.len q ?_;rw[a]at b;rw[h.used]at f;have b:q<G.used+1:=b;omega
 .rw[e]
  by_cases c:q=G.used
  .rw[gq (by rw[h.used];exact c),a];simp[c,jE]
  .rw[B (by rw[h.used];exact c),a];simp only[c,ii];rw[a]at b;refine h.cont q ⟨b.1,?_,by rw[d];simp⟩;have:=b.2.1;have:q<G.used+1:=this;omega
 .rw[a];show Vr _ D G.fr;rw[d];trivial
 .show(jr M.now M.m.used mq).map (·.1)=ib M.count M.m.used;rw[ve,h.count]
 .have hu:G.alloc.used=G.used+1:=by rw[a]
  rw[hu];have h1:=h.ok.one;rcases(rR M.count M.m.used q).1 b with h2|rfl
  .have:=h.wo q h2;omega
  .rw[h.used];omega
def tT.zF (h:tT M D G){n:Nat}{r:δ Nat}(c:G.fr=n::r)(k:0<G.bT):tT (M.zF D) D G.alloc/\M.m.head=n/\M.m.head≠0/\0<M.m.free/\M.first+M.m.head<D.aB.length/\(M.get D M.m.head).length=512:=by
 have l:=vL h.ok k;have a:G.alloc={G with fr:=r,cont:=λq=>if q=n then .blank else G.cont q,eu:=ib G.eu n}:=by unfold GM.alloc;rw[c]
 have hh:M.m.head=n:=by rw[h.head,c];rfl
 have hn:=h.ok.fr n (by rw[c];simp);have i:=h.ok.nd;rw[c,me]at i;have j:=h.chain;rw[c]at j
 have p:r.headD 0<2147483648:=by
  cases r with
  |nil=>simp
  |cons m r=>have:=h.ok.fr m (by rw[c];simp);have:=h.ok.jT;have:=h.ok.size;simp;omega
 have g:∀q,(M.zF D).get D q=if q=n then mq else M.get D q:=λq=>by rw[<-hh];exact GB (M:=M) (M':=M.zF D) (n:=M.m.head) (s:=mq) D rfl rfl rfl q
 have u:=h.ok.jT;have o:=h.fits;rw[h.aO]at o;refine⟨⟨by rw[a];exact h.aO,by rw[a];exact h.used,by rw[a];exact h.root,?_,?_,λq=>?_,KF h.Aa _,l.ok,h.fits,λq b=>?_,λq b=>?_,?_,?_,pU h.uJ _,λq b=>?_,by rw[a];show ib M.count M.m.head=ib G.eu n;rw[h.eu,hh]⟩,hh,J,by rw[h.free,c];simp,by rw[hh];omega,by rw[hh];exact h.len n hn.2⟩
 .rw[a];show tL ((M.get D M.m.head).take 4)=r.headD 0;rw[hh,j.1,I9 p]
 .rw[a];show M.m.free-1=r.length;rw[h.free,c];simp
 .rw[a];show q∈A4 M.idle M.m.head↔q∈r;rw[Iy h.Aa,h.idle,c,hh];constructor
  .rintro⟨h1,h2⟩;rcases ip.1 h1 with d|d
   .exact absurd d h2
   .exact d
  .intro h1;exact⟨à,λe=>i.1 (e▸h1)⟩
 .rw[g];split
  .exact rH
  .rw[a]at b;exact h.len q b
 .rw[g]
  by_cases f:q=n
  .rw[gq f,a];simp[f,jE]
  .rw[B f,a];simp only[f,ii];rw[a]at b;refine h.cont q ⟨b.1,b.2.1,?_⟩;rw[c];intro h1;rcases ip.1 h1 with d|d
   .exact f d
   .exact b.2.2 d
 .rw[a];exact j.2.congr λq b=>by rw[g,B (λe:q=n=>i.1 (e▸b))]
 .show(jr M.now M.m.head mq).map (·.1)=ib M.count M.m.head;rw[ve,h.count]
 .have hu:G.alloc.used=G.used:=by rw[a]
  rw[hu];rcases(rR M.count M.m.head q).1 b with h2|rfl
  .exact h.wo q h2
  .rw[hh];exact hn
def tT.drop (h:tT M D G){n:Nat}(f:G.bV n):tT (M.drop n) D (G.drop n):=by
 have g:=qV h.ok f;have d:∀q,(M.drop n).get D q=if q=n then lq M.m.head else M.get D q:=GB D rfl rfl rfl
 refine⟨h.aO,h.used,h.root,rfl,?_,λq=>?_,pU h.Aa _,g.ok,h.fits,λq c=>?_,λq c=>?_,⟨?_,?_⟩,?_,pU h.uJ _,λq c=>?_,by show ib M.count n=ib G.eu n;rw[h.eu]⟩
 .show M.m.free+1=(n::G.fr).length;rw[h.free];rfl
 .show q∈ib M.idle n↔q∈n::G.fr;rw[rR,h.idle,ip];constructor<;>rintro(h1|h1)
  .exact .inr h1
  .exact .inl h1
  .exact .inr h1
  .exact .inl h1
 .rw[d];split
  .exact Ad _
  .exact h.len q c
 .obtain⟨a,b⟩:=(g.bV q).1 c;rw[d,B b];exact h.cont q a
 .rw[d,gq rfl,h.head]
 .exact h.chain.congr λq c=>by rw[d,B (λe:q=n=>f.2.2 (e▸c))]
 .show(jr M.now n (lq M.m.head)).map (·.1)=ib M.count n;rw[ve,h.count]
 .rcases(rR M.count n q).1 c with h1|rfl
  .exact h.wo q h1
  .exact⟨f.1,f.2.1⟩
end
structure PI where
 p:Nat
 a:Nat
 lg:K
 bd:Nat
 bn:Nat
 bi:Nat
 bc:Nat
 Fd:List Nat
 D:aX
 cC:List (Nat×kh)
 kept:mQ
 first:Nat
def PI.W (π:PI):δ Nat:=[π.p,π.bn,π.bi,π.bc]
def PI.all (π:PI):δ Nat:=π.p::π.bd::π.bn::π.bi::π.bc::π.Fd
def Pg (π:PI)(Z:O)(G:GM):Prop:=∃M,dx Z π.p π.a π.lg M π.bd π.bn π.bi π.bc/\tT M π.D G/\dz Z π.a π.Fd π.D/\π.D.dead=φ/\(∀b∈π.Fd,b∉[π.p,π.bd,π.bn,π.bi,π.bc])/\M.cC=π.cC/\M.kept=π.kept/\M.first=π.first
section
variable {π:PI} {Z Z':O} {G:GM}
def Pg.keep {X:δ Nat}(h:Pg π Z G)(d:Kp X Z Z')(c:∀b∈π.all,b∉X):Pg π Z' G:=by
 obtain⟨M,j,i,g,f,e,l,m,k⟩:=h;exact⟨M,j.keep d λb a=>c b (by unfold PI.all;simp at a⊢;rcases a with h|h|h|h|h<;>simp[h]),i,g.keep d λb a=>c b (by unfold PI.all;simp[a]),f,e,l,m,k⟩
def Pg.still (h:Pg π Z G)(a:Kp [] Z Z'):Pg π Z' G:=h.keep a V
def Pg.lt (h:Pg π Z G):∀b∈π.all,b<Z.nx:=by
 obtain⟨M,a,g,d,f,e,j,k,i⟩:=h;intro b c;unfold PI.all at c;simp only[ip]at c;rcases c with h|h|h|h|h|h
 .exact a.lt b QO
 .exact a.lt b QO
 .exact a.lt b QO
 .exact a.lt b QO
 .exact a.lt b QO
 .exact d.lt b h
def Pg.Vp (h:Pg π Z G):∀b∈π.W,b<Z.nx:=λb a=>h.lt b (by unfold PI.W at a;unfold PI.all;simp at a⊢;rcases a with h|h|h|h<;>simp[h])
def Pg.Z7 (h:Pg π Z G):wb G:=by obtain⟨M,_,a,_⟩:=h;exact a.ok
def Lh (h:Pg π Z G):Rq0 96 [.ptr π.p 0] Z λv Z'=>v=I G.root/\Z'=Z:=by
 obtain⟨M,b,a,_⟩:=h;refine(V8 b).mono ?_;rintro v s ⟨rfl,rfl⟩;exact⟨by rw[a.root],rfl⟩
def RU (h:Pg π Z G):Rq0 173 [.ptr π.p 0] Z λv Z'=>v=I G.bT/\Z'=Z:=by
 obtain⟨M,c,a,e,_⟩:=h;have:=a.ok.jT;have:=a.ok.size;have d:=qb G.used G.fr a.ok.nd λx b=>(a.ok.fr x b).2;refine(Bh c (by rw[a.aO];omega) (by rw[a.used];omega) (by rw[a.free];omega)).mono ?_;rintro v s ⟨rfl,rfl⟩;exact⟨by rw[a.bT],rfl⟩
def vg (h:Pg π Z G)(n:Nat)(d:n=0\/G.bV n):Rq0 182 [.ptr π.p 0,I n] Z λv Z'=>v=I 0/\Kp π.W Z Z'/\Pg π Z' (G.eS n):=by
 obtain⟨M,j,c,i,f,a,m,o,l⟩:=h;refine(KB j n (d.imp id λh=>(c.xL n).2 h)).mono ?_;rintro v s ⟨rfl,k,_,g⟩;exact⟨rfl,k.mono adi,_,g,c.eS n,i.keep k λb e hh=>a b e (by simp at hh;simp[hh]),f,a,m,o,l⟩
def RT (h:Pg π Z G){n:Nat}(b:G.bV n):Rq0 194 [.ptr π.p 0,I n] Z (Got (jE (G.cont n)) Z):=by
 obtain⟨M,g,a,f,e,i,k,l,j⟩:=h;have hf:=a.fits;have:=a.ok.jT;have d:=a.cont n b;have c:=a.len n b.2.1;have:=b.2.1;have:=RQ g f e ((a.xL n).2 b) (by rw[a.aO]at hf;omega) c;rw[d]at this;exact this
def Na (h:Pg π Z G){n:Nat}(c:G.bV n){v:K}{x:PC}(f:Sl Z [π.bn,π.bc] v 1 (al (jE x)))(a:(jE x).length=512):Rq0 223 [.ptr π.p 0,I n,v] Z λy Z'=>y=I 0/\Kp π.W Z Z'/\Pg π Z' (G.put n x):=by
 obtain⟨M,m,e,l,j,d,q,r,o⟩:=h;refine(O6 m ((e.xL n).2 c) f a).mono ?_;rintro y s ⟨rfl,k,_,g⟩;exact⟨rfl,k.mono adi,_,g,e.put c a,l.keep k λb i hh=>d b i (by simp at hh;rcases hh with h|h<;>simp[h]),j,d,q,r,o⟩
def Nb (h:Pg π Z G)(j:0<G.bT):Rq0 221 [.ptr π.p 0] Z λv Z'=>v=.tuple [I G.dI,μ]/\Kp π.W Z Z'/\Pg π Z' G.alloc:=by
 obtain⟨M,l,a,f,e,c,z,C,y⟩:=h;have:=a.ok.jT;have:=a.ok.size;have S:=qb G.used G.fr a.ok.nd λx Q=>(a.ok.fr x Q).2;have w:M.aO<=1000000:=by rw[a.aO];omega
 have u:M.m.used<=1000000:=by rw[a.used];omega
 have q:M.m.free<=1000000:=by rw[a.free];omega
 have o:M.bT≠0:=by rw[a.bT];omega
 cases h0:G.fr with
 |nil=>
  have i:G.dI=G.used:=by unfold GM.dI;rw[h0]
  refine(Qn l w u q o (by rw[a.head,h0];rfl)).mono ?_;rintro v s ⟨rfl,k,_,g⟩;exact⟨by rw[i,a.used],k.mono adi,_,g,a.Cs h0 j,f.keep k λb d hh=>c b d (by simp at hh;rcases hh with h|h|h<;>simp[h]),e,c,z,C,y⟩
 |cons n r=>
  have i:G.dI=n:=by unfold GM.dI;rw[h0]
  obtain⟨P,N,L,H,F,D⟩:=a.zF h0 j;refine(Qm l f e w u q o H L F D).mono ?_;rintro v s ⟨rfl,k,g⟩;exact⟨by rw[i,N],k.mono adi,_,g,P,f.keep k λb d hh=>c b d (by simp at hh;rcases hh with h|h|h|h<;>simp[h]),e,c,z,C,y⟩
def FF (h:Pg π Z G){n:Nat}(c:G.bV n):Rq0 212 [.ptr π.p 0,I n] Z λv Z'=>v=I 0/\Kp π.W Z Z'/\Pg π Z' (G.drop n):=by
 obtain⟨M,l,a,j,i,d,q,u,o⟩:=h;have:=a.ok.jT;have:=a.ok.size;have w:=qb G.used G.fr a.ok.nd λx e=>(a.ok.fr x e).2
 have hh:M.m.head<=1000000:=by
  rw[a.head];cases h0:G.fr with
  |nil=>simp
  |cons m r=>have:=a.ok.fr m (by rw[h0];simp);simp;omega
 refine(XT l ((a.xL n).2 c) (by rw[a.free];omega) hh).mono ?_;rintro v s ⟨rfl,k,g⟩;exact⟨rfl,k.mono adi,_,g,a.drop c,j.keep k λb f hh=>d b f (by simp at hh;rcases hh with h|h|h|h<;>simp[h]),i,d,q,u,o⟩
end
