import Derived.Test.YtomffjeofpafnaaGreatDoorRingA
namespace Lim
open Go
noncomputable section
set_option linter.defProp false
set_option maxRecDepth 100000
section
variable {G:List Nat}{vs:List CV}{L:List (List UInt8)}
section
variable {st st':St}
def tw {f:CV}{args:List CV}{Q a:CV->St->Prop}(h:fA R f args st Q)(b:∀v s,Q v s->a v s):fA R f args st a:=by
 unfold fA at*
 split at h
 .exact R.mono h b
 .exact h.elim
def nQ (st:St)(G:List Nat):List CV->List (List UInt8)->Prop
 |[],[]=>True
 |v::vs,l::ls=>lS st G v 1 (ai l)/\nQ st G vs ls
 |_,_=>False
def nQ.keep {X:List Nat}(h:nQ st G vs L)(d:Kp X st st')(c:∀b∈G,b∉X):nQ st' G vs L:=by
 induction vs generalizing L with
 |nil=>cases L with|nil=>trivial|cons l L=>exact h
 |cons v vs a=>cases L with|nil=>exact h|cons l L=>exact⟨h.1.keep d c,a h.2⟩
def nQ.mono {H:List Nat}(h:nQ st G vs L)(c:∀b∈G,b∈H):nQ st H vs L:=by
 induction vs generalizing L with
 |nil=>cases L with|nil=>trivial|cons l L=>exact h
 |cons v vs a=>cases L with|nil=>exact h|cons l L=>exact⟨h.1.mono c,a h.2⟩
def nQ.snoc {v:CV}{l:List UInt8}(h:nQ st G vs L)(b:lS st G v 1 (ai l)):nQ st G (vs++[v]) (L++[l]):=by
 induction vs generalizing L with
 |nil=>cases L with|nil=>exact⟨b,afp⟩|cons l L=>exact h.elim
 |cons v vs a=>cases L with|nil=>exact h.elim|cons l L=>exact⟨h.1,a h.2⟩
def nQ.len (h:nQ st G vs L):vs.length=L.length:=by
 induction vs generalizing L with
 |nil=>cases L with|nil=>rfl|cons l L=>exact h.elim
 |cons v vs a=>cases L with|nil=>exact h.elim|cons l L=>simp[a h.2]
def iH (P:Nat->Piece)(count:Nat):Nat->Nat->List UInt8->List (List UInt8)->Nat->List (List UInt8)×Nat
 |0,_,_,out,last=>(out,last)
 |f+1,n,now,out,last=>if (P ((n+1)%count)).n=n+1 then
   (if (P ((n+1)%count)).last=true then iH P count f (n+1) [] (out++[now++(P ((n+1)%count)).data]) (n+1)else iH P count f (n+1) (now++(P ((n+1)%count)).data) out last)
  else (out,last)
def qk (st:St)(x:CV)(L:List (List UInt8))(a G:List Nat):Prop:=∃vs,Own st x 1 93 vs a/\nQ st G vs L/\(∀b∈a,b<st.nx)/\(∀b∈G,b<st.nx)/\∀b∈a,b∉G
structure abN (kL:St)(r a c q:Nat)(F:List Nat)(D:aU)(P:Nat->Piece)(m:RingM)(f:CV)(fuel:Nat)(vs:List CV)(s:St)(n:Nat)(now:List UInt8)(out:List (List UInt8))(last:Nat)(xo xn:CV)(Fo Fn G:List Nat):Prop where
 vs:vs=[.ptr r 0,xo,xn,f]
 fu:n+fuel=m.base+m.count
 lo:m.base<=n
 kp:Kp [r] kL s
 ring:fL s r a {m with last:=last}
 Bj:cQ s a F D
 nx:rR s f c q r n
 Up:qk s xo out Fo G
 own:Own s xn 1 5 (ai now) Fn
 ltn:∀b∈Fn,b<s.nx
 ge:∀b,b∈Fo\/b∈Fn\/b∈G->kL.nx<=b/\b≠c/\b≠q
 MF:∀b∈Fn,b∉Fo/\b∉G
 szn:now.length<=501*n
 szo:out.length<=n
 tgt:iH P m.count fuel n now out last=iH P m.count m.count m.base [] [] m.last
def JG {r a:Nat}{m:RingM}{F:List Nat}{D:aU}{P:Nat->Piece}(hf:eA st)(h:fL st r a m)(hd:cQ st a F D)(hr:r∉F)(nj:D.dead=false)(C:tH D m P)(hb:m.base<=1000000000):
 R 115 [.ptr r 0] st λx st'=>∃E Fo G,x=.tuple [E,I 0]/\Kp [r] st st'/\fL st' r a {m with last:=(iH P m.count m.count m.base [] [] m.last).2}/\qk st' E (iH P m.count m.count m.base [] [] m.last).1 Fo G/\∀b,b∈Fo\/b∈G->st.nx<=b:=by
 refine bK ?_;rw[anu];show R 154 [.ptr r 0] st _;refine(JO h).mono ?_;rintro f s1 ⟨k1,c,q,Cq,hc,hq⟩;simp only[aK,aL];refine bG (λfuel vs s=>∃n o B last E xn Fo Fn G,abN st r a c q F D P m f fuel vs s n o B last E xn Fo Fn G) ?_ (n:=m.count) ⟨m.base,[],[],m.last,.ae,.ae,[],[],[],rfl,rfl,aHK _,k1.mono wb,h.keep k1 wb,hd.keep k1 wb,Cq,⟨[],.inl ⟨rfl,rfl,rfl⟩,afp,wb,wb,wb⟩,.inl ⟨rfl,rfl,rfl⟩,wb,wb,wb,wb,wb,rfl⟩;rintro fuel vs s k ⟨n,o,B,last,E,xn,Fo,Fn,G,I⟩ next;obtain⟨rfl,i1,i2,i3,i4,i5,i6,i7,i8,i9,i,V,bh,bg,y⟩:=I;have bo:∀s:St,True:=λ_=>trivial;have ov:=i3.nx;have Co:=h.1;have ax:tH D {m with last:=last} P:=⟨C.pos,C.fits,C.ik,C.base,C.cur⟩;simp only[aK,aL];obtain⟨A,j1,j2,U,j4,j5⟩:=i7;have yW:∀(s':St),Kp [c] s s'->Kp [r] st s':=λs' hk=>i3.trans hk (by simp;right;exact hc)
 by_cases A9:fuel=0
 .subst A9;refine tw (Qm i4 ax i6 (by simpa using i1)) ?_;rintro _ d ⟨rfl,k3⟩;have g4:(St.new d (.cells [.int .i64 0,.bool false,.ae] 200 false)).m.g d.nx=some (.cells [.int .i64 0,.bool false,.ae] 200 false):=au _ _;have Z:∀blk,Kp [] s (St.set (St.new d (.cells [.int .i64 0,.bool false,.ae] 200 false)) d.nx blk):=λblk=>(k3.new _).set _ (.inr k3.nx) wb;simp only[aD,aI,af,cz,aP,aH,g4,aS,aT,av,ff,aIS,aIb,aG,aHH,aHV,aHY,ba,cR,aF,ag,aIj];refine⟨⟨rfl,rfl,xI⟩,E,Fo,G,rfl,i3.trans (Z _) wb,?_,?_,λb hb=>(i b (by rcases hb with h|h<;>simp[h])).1⟩
  .rw[<-y];exact i4.keep (Z _) wb
  .rw[<-y];exact⟨A,j1.keep (Z _) λb hb=>⟨U b hb,wb⟩,j2.keep (Z _) wb,λb hb=>aId (U b hb) (Z (.map [] 0)).nx,λb hb=>aId (j4 b hb) (Z (.map [] 0)).nx,j5⟩
 .obtain⟨fu,rfl⟩:∃fu,fuel=fu+1:=⟨fuel-1,uM⟩;have W:r≠c:=by omega
  have am:r≠q:=uM
  have ay:c∉F:=λh=>by have:=hd.lt c h;omega
  refine tw (UM (i3.fresh hf) i4 i5 hr nj ax i6 zS (by simpa using i2) zS W am ay) ?_;rintro _ d ⟨_,rfl,⟨v,Fv,rfl,k3,ho,Oa⟩,bd⟩;have e0:RingM.is {m with last:=last} P (n+1)↔(P ((n+1)%m.count)).n=n+1:=Iff.rfl;rw[show decide (RingM.is {m with last:=last} P (n+1))=decide ((P ((n+1)%m.count)).n=n+1)from decide_eq_decide.2 e0];simp only[iH]at y;generalize hP:P ((n+1)%m.count)=p at*;have g4:(St.new d (.cells [.int .i64 0,.bool false,.ae] 200 false)).m.g d.nx=some (.cells [.int .i64 0,.bool false,.ae] 200 false):=au _ _;have kJ:bz [.int .i64 0,.bool false,.ae] 0 [I p.n,.bool p.last,v]=[I p.n,.bool p.last,v]:=dU _ _ rfl;obtain⟨o1,o2⟩:=ho.cF;have S:Kp [c] s (St.set (St.new d (.cells [.int .i64 0,.bool false,.ae] 200 false)) d.nx (.cells [I p.n,.bool p.last,v] 200 false)):=(k3.new _).set _ (.inr k3.nx) wb;have OO:Kp [] d (St.set (St.new d (.cells [.int .i64 0,.bool false,.ae] 200 false)) d.nx (.cells [I p.n,.bool p.last,v] 200 false)):=((Kp.refl _ d).new _).set _ (.inr (aHK _)) wb;have g5:(St.set (St.new d (.cells [.int .i64 0,.bool false,.ae] 200 false)) d.nx (.cells [I p.n,.bool p.last,v] 200 false)).m.g d.nx=some (.cells [I p.n,.bool p.last,v] 200 false):=an _ _ _;have bn:(St.set (St.new d (.cells [.int .i64 0,.bool false,.ae] 200 false)) d.nx (.cells [I p.n,.bool p.last,v] 200 false)).nx=d.nx+1:=rfl;simp only[aD,aI,af,cz,aP,aH,g4,aS,aT,kJ,av,ff,aIS,aIb,aG,aHH,aHV,aHY,ba,cR,aF,ag];refine⟨⟨rfl,acu,xI⟩,?_⟩;generalize St.set (St.new d (.cells [.int .i64 0,.bool false,.ae] 200 false)) d.nx (.cells [I p.n,.bool p.last,v] 200 false)=Y at*;have Z6:=k3.nx;have nc:∀b,b∈Fo\/b∈Fn\/b∈G->b∉[c]:=λb hb=>by simpa using (i b hb).2.1
  have aq:=i4.keep S (by simpa using W);have bb:=i5.keep S (λb hb=>by simp;exact λe=>ay (e▸hb));have a6:=bd.keep OO wb wb;have aj:=j1.keep S λb hb=>⟨U b hb,nc b (.inl hb)⟩;have ac:=j2.keep S λb hb=>nc b (.inr (.inr hb));have aM:=i8.keep S λb hb=>⟨i9 b hb,nc b (.inr (.inl hb))⟩;have aN:=ho.keep OO λb hb=>⟨(Oa b hb).2,wb⟩
  by_cases w:p.n=n+1
  .rw[aHQ w,aIb,aHM xI];rw[aHP w]at y
   have bp:p.data.length<=501:=by
    obtain⟨_,u⟩:=C.cur _ (aKq (n+1) C.pos);rw[hP]at u;exact u.2.1
   have a7:∀b∈Fv,s.nx<=b/\b<Y.nx/\b≠d.nx:=λb hb=>by have:=Oa b hb;omega
   have a8:Sl Y [] v 1 (ai p.data):=aN.sl λb hb=>⟨wb,(a7 b hb).2.1⟩;obtain⟨nn,Vl,Cm⟩:=a8.src [(.int .u8 0)];simp at Vl;subst Vl;have q1:=C.fits;have q2:=C.ik;obtain⟨z,j,l,a1,a2,K,a4⟩:=aM.append (n:=p.data.length) (bytes:=1) (T:=ai p.data) uM wb (bu _) (λb hb=>by have:=i9 b hb;omega) zS;have bm:=K.nx;have aO:d.nx∉Fn:=λh=>by have:=i9 _ h;omega
   have g6:=(K.keep d.nx uM aO).trans g5;simp only[fl,ah,af,az,g5,ar,aHN,aHI,aHG,aw,Cm,a1,aP,g6,ag];have M:∀b∈l,(b∈Fn\/Y.nx<=b)/\b<j.nx:=λb hb=>⟨(a4 b hb).1.imp id λh=>uM,(a4 b hb).2⟩;have nF:∀b,b∈Fo\/b∈G->b∉Fn:=λb hb h=>(hb.elim (V b h).1 (V b h).2);have Q:∀b,b∈Fo\/b∈G->b<Y.nx:=λb hb=>by rcases hb with h|h;have:=U b h;omega;have:=j4 b h;omega
   have nr:r∉Fn:=λh=>by have:=(i r (.inr (.inl h))).1;omega
   have aY:c∉Fn:=λh=>(i c (.inr (.inl h))).2.1 rfl;have aV:q∉Fn:=λh=>(i q (.inr (.inl h))).2.2 rfl;have ap:=aq.keep K nr;have xM:=bb.keep K (λb hb h=>by have:=(i b (.inr (.inl h))).1;have:=hd.lt b hb;omega);have al:=a6.keep K aY aV;have ad:=aj.keep K λb hb=>⟨Q b (.inl hb),nF b (.inl hb)⟩;have ab:=ac.keep K λb hb=>nF b (.inr hb);have Fg:=(yW Y S).trans K λb hb=>.inr (i b (.inr (.inl hb))).1
   have NV:∀b,b∈Fo\/b∈l\/b∈G->st.nx<=b/\b≠c/\b≠q:=λb hb=>by
    rcases hb with hb|hb|hb
    .exact i b (.inl hb)
    .rcases(M b hb).1 with h|h
     .exact i b (.inr (.inl h))
     .have:=i6.2.1;have:=i6.2.2.1;omega
    .exact i b (.inr (.inr hb))
   have Rq:∀b∈l,b∉Fo/\b∉G:=λb hb=>by
    rcases(M b hb).1 with h|h
    .exact V b h
    .exact⟨λh2=>by have:=Q b (.inl h2);omega,λh2=>by have:=Q b (.inr h2);omega⟩
   by_cases hl:p.last=true
   .rw[aHP hl];rw[aHP hl]at y;have VA:=Fg.fresh hf;obtain⟨b1,b2⟩:=a2.cF;have b3:=(a2.sl (X:=[]) λb hb=>⟨wb,(M b hb).2⟩).bL.1
    have A8:gC [(0,1,z)] (cH 1 [CV.ae])=some [z]:=by
     rw[cE,aHP ⟨⟨by rw[b2];rfl,b3⟩,by rw[b2];exact aHK _⟩,lJ,b2];rfl
    have jD:(St.skip j).m.g j.nx=none:=VA _ (aHK _);rw[bD,jO jD A8,aP];have H:Kp [] j (St.set (St.skip j) j.nx (.cells [z] 93 false)):=((Kp.refl _ j).skip).set _ (.inr (aHK _)) wb;have bc:(St.set (St.skip j) j.nx (.cells [z] 93 false)).m.g j.nx=some (.cells [z] 93 false):=an _ _ _;have bl:(St.set (St.skip j) j.nx (.cells [z] 93 false)).nx=j.nx+1:=rfl;generalize St.set (St.skip j) j.nx (.cells [z] 93 false)=s7 at*;have a0:=ad.keep H λb hb=>⟨by have:=Q b (.inl hb);omega,wb⟩;have aa:=ab.keep H wb
    have aJ:lS s7 l z 1 (ai (o++p.data)):=by
     have:=a2.keep H λb hb=>⟨(M b hb).2,wb⟩;rw[bI];exact this.aev λb hb=>by have:=(M b hb).2;omega
    have bi:=aa.len;rw[GZ (k:=1) (n:=1) bc uM rfl];obtain⟨aC,N,aB,c1,c2,J,c4⟩:=a0.append (n:=1) (bytes:=24) (T:=[z]) uM rfl (by rw[Ci,b1];rfl) (λb hb=>by have:=Q b (.inl hb);omega) zS;have bk:=J.nx;have bf:d.nx∉Fo:=λh=>by have:=U _ h;omega
    have aQ:r∉Fo:=λh=>by have:=(i r (.inl h)).1;omega
    have aW:c∉Fo:=λh=>(i c (.inl h)).2.1 rfl;have aR:q∉Fo:=λh=>(i q (.inl h)).2.2 rfl;have g7:=(H.keep d.nx uM wb).trans g6;have g8:=(J.keep d.nx uM bf).trans g7;have ao:=(ap.keep H wb).keep J aQ;have be:=ao.2;have Jc:=(xM.keep H wb).keep J (λb hb h=>by have:=(i b (.inl h)).1;have:=hd.lt b hb;omega);have a5:=(al.keep H wb wb).keep J aW aR;have a9:=(Fg.trans H wb).trans J λb hb=>.inr (i b (.inl hb)).1;have aZ:=aa.keep J λb hb h=>j5 b h hb;have aE:=aJ.keep J λb hb h=>(Rq b hb).1 h;have RL:∀b∈aB,(b∈Fo\/s7.nx<=b)/\b<N.nx:=λb hb=>⟨(c4 b hb).1.imp id λh=>uM,(c4 b hb).2⟩;have ZX:bz [CV.ptr a 0,I m.first,I m.count,I m.base,I last,I m.top] 4 [I p.n]=[CV.ptr a 0,I m.first,I m.count,I m.base,I p.n,I m.top]:=rfl;simp only[c1,aP,ah,af,g7,g8,ar,aHN,aHG,aw,bj,aH,be,aS,ji,ZX];refine⟨⟨rfl,rfl,wb⟩,⟨⟨afp,afp,afp⟩,afp⟩,⟨afp,afp⟩,?_⟩;have aA:=ao.1;have fo:∀b,b≠r->(St.set N r (.cells [.ptr a 0,I m.first,I m.count,I m.base,I p.n,I m.top] 198 false)).m.g b=N.m.g b:=λb hb=>ak _ _ _ _ hb;have k9:Kp [r] N (St.set N r (.cells [.ptr a 0,I m.first,I m.count,I m.base,I p.n,I m.top] 198 false)):=(Kp.refl _ N).set _ (.inl wb) aA;have O:∀b,st.nx<=b->b∉[r]:=λb hb=>zS
    refine next fu _ _ uM ⟨n+1,[],B++[o++p.data],n+1,aC,.ae,aB,[],l++G,rfl,uM,uM,a9.trans k9 wb,⟨aA,by rw[an,w]⟩,Jc.keep k9 (λb hb=>by simp;exact λe=>hr (e▸hb)),a5.keep k9 (by simpa using aIG W) (by simpa using aIG am),⟨A++[z],c2.keep k9 λb hb=>⟨(RL b hb).2,O b ?_⟩,?_,λb hb=>(RL b hb).2,?_,?_⟩,.inl ⟨rfl,rfl,rfl⟩,wb,?_,wb,wb,zS,y⟩
    .rcases(RL b hb).1 with h|h
     .exact(i b (.inl h)).1
     .have:=Fg.nx;omega
    .refine nQ.snoc ((aZ.keep k9 λb hb=>O b (i b (.inr (.inr hb))).1).mono λb hb=>TL) ((aE.keep k9 λb hb=>O b ?_).mono λb hb=>TL);exact(NV b (.inr (.inl hb))).1
    .intro b hb;show b<N.nx;rcases aHT.1 hb with h|h
     .have:=(M b h).2;omega
     .have:=Q b (.inr h);omega
    .intro b hb h2;rcases(RL b hb).1 with h|h
     .rcases aHT.1 h2 with h3|h3
      .exact(Rq b h3).1 h
      .exact j5 b h h3
     .rcases aHT.1 h2 with h3|h3
      .have:=(M b h3).2;omega
      .have:=Q b (.inr h3);omega
    .intro b hb;rcases hb with hb|hb|hb
     .rcases(RL b hb).1 with h|h
      .exact i b (.inl h)
      .have:=Fg.nx;have:=i6.2.1;have:=i6.2.2.1;omega
     .simp at hb
     .rcases aHT.1 hb with h|h
      .exact NV b (.inr (.inl h))
      .exact i b (.inr (.inr h))
   .rw[aHM hl];rw[aHM hl]at y;refine next fu _ _ uM ⟨n+1,o++p.data,B,last,E,z,Fo,l,G,rfl,uM,uM,Fg,ap,xM,al,⟨A,ad,ab,λb hb=>by have:=U b hb;omega,λb hb=>by have:=j4 b hb;omega,j5⟩,by rw[bI];exact a2,λb hb=>(M b hb).2,NV,Rq,zS,uM,y⟩
  .rw[aHL w,aHY,aHP rfl];rw[aHM w]at y;refine⟨E,Fo,G,rfl,yW Y S,?_,?_,λb hb=>(i b (by rcases hb with h|h<;>simp[h])).1⟩
   .rw[<-y];exact aq
   .rw[<-y];exact⟨A,aj,ac,λb hb=>by have:=U b hb;omega,λb hb=>by have:=j4 b hb;omega,j5⟩
end
end
section
variable {st st':St}
def kG (P:Nat->Piece)(count base:Nat):Nat->Nat
 |0=>base
 |i+1=>if (P i).n≠0/\(P i).n%count=i then max (kG P count base i) (P i).n else kG P count base i
def zD (P:Nat->Piece)(count base B:Nat)(b:base<=B)(h:∀j,j<count->(P j).n<=B):∀i,i<=count->kG P count base i<=B:=by
 intro i
 induction i with
 |zero=>intro _;exact b
 |succ i a=>
  intro hi;simp only[kG];have:=a uM;have:=h i uM
  split<;>omega
def RingM.opened (first count base:Nat)(P:Nat->Piece):RingM:=⟨first,count,base,(iH P count count base [] [] base).2,kG P count base count⟩
def Al {a:Nat}{F:List Nat}{D:aU}{P:Nat->Piece}{first count base:Nat}(T:eA st)(E:cQ st a F D)(Q:D.dead=false)(d:tH D ⟨first,count,base,base,base⟩ P)(H:base<=1000000000):
 R 69 [.ptr a 0,I first,I count,I base] st λx st'=>∃r p y G,x=.tuple [.ptr r 0,p,I 0]/\Kp [] st st'/\fL st' r a (RingM.opened first count base P)/\qk st' p (iH P count count base [] [] base).1 y G/\(∀b,b∈y\/b∈G->st.nx<=b)/\st.nx<=r:=by
 refine bK ?_;rw[w69];have Y:0<count:=d.pos;have q1:first+count<=D.aq.length:=d.fits
 have q2:=d.ik;simp only[cc,af,ag,aHH,aHV];refine(vD E).same ?_;have e1:¬(first:Int)<0:=uM
 have e2:¬(count:Int)<1:=uM
 have e3:¬(D.aq.length:Int)<count:=uM
 have e4:IntKind.i64.wrap ((D.aq.length:Int)-count)=(D.aq.length:Int)-count:=bA uM;have e5:¬((D.aq.length:Int)-count<first):=uM
 have e6:¬(base:Int)<0:=uM
 have e7:¬(4611686018427387904:Int)<base:=uM
 have Z:aZ [.bq,.int .i64 0,.int .i64 0,.int .i64 0,.int .i64 0,.int .i64 0] [(0,1,.ptr a 0),(1,1,I first),(2,1,I count),(3,1,I base),(4,1,I base),(5,1,I base)] st=.ok (.agg [.ptr a 0,I first,I count,I base,I base,I base]) st:=by
  rw[dB];simp[cE,bz]
 simp only[av,c8,dh,dS,af,e1,e2,e3,e4,e5,e6,e7,aJm,aG,aHH,aHV,aHY,ba,aF,ag,Z,bS,aT];refine⟨rfl,?_⟩;show df _ _ _;simp only[aK,aL];refine bG (λfu O s=>∃i,fu+i=count/\O=[I first,.ptr st.nx 0,I count,I i]/\Kp [] st s/\fL s st.nx a ⟨first,count,base,base,kG P count base i⟩) ?_ (n:=count) ⟨0,rfl,rfl,(Kp.refl _ st).new _,wb,au _ _⟩;rintro fu O s k ⟨i,hi,rfl,l,u⟩ next;have hn:=l.nx;have N:=E.keep l wb;have o:st.nx∉F:=λh=>by have:=E.lt _ h;omega
 have ab:=zD P count base 4611686018427387904 uM (λj hj=>(d.cur j hj).2.1);simp only[aK,aL]
 by_cases hc:i<count
 .have z:(i:Int)<count:=by omega
  have M:aj .lss none false (I i) (I count) s=.ok (.bool true) s:=by rw[av,c8,aHQ z]
  have a2:aj .add none false (I first) (I i) s=.ok (I ((first+i:Nat):Int)) s:=O8
  simp only[M,a2,af,ag,aIj];obtain⟨W,V⟩:=d.cur i hc;refine(GF (l.fresh T) u N o Q Y zS (at_:=first+i) uM V W).mono ?_;rintro _ c ⟨_,rfl,v,rfl,Fv,S,ho,Oa⟩;have B:=S.nx;obtain⟨o1,o2⟩:=ho.cF;have Kr:(RingM.place ⟨first,count,base,base,kG P count base i⟩ (P i).n=first+i)↔(P i).n%count=i:=by unfold RingM.place;simp
  have g4:(St.new c (.cells [.int .i64 0,.bool false,.ae] 200 false)).m.g c.nx=some (.cells [.int .i64 0,.bool false,.ae] 200 false):=au _ _;have kJ:bz [.int .i64 0,.bool false,.ae] 0 [I (P i).n,.bool (P i).last,v]=[I (P i).n,.bool (P i).last,v]:=dU _ _ rfl;have A:Kp [] s (St.set (St.new c (.cells [.int .i64 0,.bool false,.ae] 200 false)) c.nx (.cells [I (P i).n,.bool (P i).last,v] 200 false)):=(S.new _).set _ (.inr B) wb;have g7:(St.set (St.new c (.cells [.int .i64 0,.bool false,.ae] 200 false)) c.nx (.cells [I (P i).n,.bool (P i).last,v] 200 false)).m.g c.nx=some (.cells [I (P i).n,.bool (P i).last,v] 200 false):=an _ _ _;have aa:(St.set (St.new c (.cells [.int .i64 0,.bool false,.ae] 200 false)) c.nx (.cells [I (P i).n,.bool (P i).last,v] 200 false)).nx=c.nx+1:=rfl;simp only[aD,aI,af,cz,aP,aH,g4,aS,aT,kJ,av,ff,aIS,aIb,aHH,aHV,ag];refine⟨⟨rfl,acu,xI⟩,?_⟩;generalize St.set (St.new c (.cells [.int .i64 0,.bool false,.ae] 200 false)) c.nx (.cells [I (P i).n,.bool (P i).last,v] 200 false)=q at*;have f:=u.keep A wb;have ZS:=f.2;have U:∀s,ki .add .i64 (i:Int) .i64 1 s=.ok (I ((i+1:Nat):Int)) s:=λs=>by rw[cI,bA uM];rfl
  have K:decide ((P i).n≠0/\RingM.place ⟨first,count,base,base,kG P count base i⟩ (P i).n=first+i)=decide ((P i).n≠0/\(P i).n%count=i):=decide_eq_decide.2 (and_congr_right λ_=>Kr);rw[K]
  by_cases w:(P i).n≠0/\(P i).n%count=i
  .rw[aHQ w,aHP rfl]
   have Vn:C0 true (I (kG P count base i)) (I (P i).n) q=.ok (I ((kG P count base (i+1):Nat):Int)) q:=by
    have e:C0 true (I (kG P count base i)) (I (P i).n) q=.ok (I (if (kG P count base i:Int)<(P i).n then (P i).n else kG P count base i)) q:=rfl;rw[e];simp only[kG];rw[aHP w]
    congr 2
    split<;>omega
   have ZX:bz [CV.ptr a 0,I first,I count,I base,I base,I (kG P count base i)] 5 [I ((kG P count base (i+1):Nat):Int)]=[CV.ptr a 0,I first,I count,I base,I base,I ((kG P count base (i+1):Nat):Int)]:=rfl;simp only[bD,bj,ah,af,az,ZS,g7,ar,aHN,aHI,aHG,aw,Vn,aH,aS,ji,ZX,U];refine⟨⟨rfl,rfl,wb⟩,⟨afp,afp,afp⟩,afp,?_⟩;exact next (fu-1) _ _ uM ⟨i+1,uM,rfl,(l.trans A wb).set _ (.inr (aHK _)) f.1,f.1,an _ _ _⟩
  .rw[aHL w,aHM xI];simp only[U,af];refine next (fu-1) _ _ uM ⟨i+1,uM,rfl,l.trans A wb,?_⟩;have e:kG P count base (i+1)=kG P count base i:=by simp only[kG];rw[aHM w]
   rw[e];exact f
 .have z:¬(i:Int)<count:=by omega
  have C:i=count:=uM
  have M:aj .lss none false (I i) (I count) s=.ok (.bool false) s:=by rw[av,c8,aHL z]
  simp only[M,af,ag,aHH,aHV];rw[C]at u;refine(JG (l.fresh T) u N o Q ⟨d.pos,d.fits,d.ik,d.base,d.cur⟩ H).mono ?_;rintro _ s9 ⟨p,y,G,rfl,k9,X,L,J⟩;simp only[aD,aI,af,av,ff,aIS,aIb,aHH,aHV,ag];exact⟨st.nx,p,y,G,rfl,l.trans k9 wb,X,L,λb H=>aIz hn (J b H),aHK _⟩
end
section
variable {D:aU}{r a:Nat}{m:RingM}{F:List Nat}{v:CV}{rec:List UInt8}
section
variable {st st':St}
def aU.writes (D:aU):List (Nat×iT)->Int×aU
 |[]=>(0,D)
 |w::r=>if (D.write w.1 w.2).1=0 then (D.write w.1 w.2).2.writes r else D.write w.1 w.2
def cO (rec:List UInt8)(last n i:Nat):Piece:=⟨last+1+i,decide (i+1=n),(rec.drop (i*501)).take 501⟩
def RingM.sr (m:RingM)(rec:List UInt8)(i:Nat):Nat×iT:=(m.place (m.last+1+i),(cO rec m.last (bf rec.length) i).bX)
def zQ {i:Int}{s:iT}(h:(D.write i s).1=0):(D.write i s).2.dead=D.dead/\(D.write i s).2.waits=D.waits++[(i.toNat,s)]/\(D.write i s).2.aq=D.aq:=by
 unfold aU.write at*
 by_cases d:D.dead=true
 .rw[aHP d]at h;cases h
 .rw[aHM d]at h⊢
  by_cases c:i<0\/(D.aq.length:Int)<=i\/s.length≠512
  .rw[aHP c]at h;cases h
  .rw[aHM c]at h⊢
   by_cases b:D.out
   .rw[aHP b]at h;cases h
   .rw[aHM b];exact⟨rfl,rfl,rfl⟩
def GU {len i:Nat}(h:i<bf len):i*501<=len:=by
 unfold bf at h
 split at h
 .omega
 .omega
def II {X:List Nat}(h:fL st r a m)(i:cQ st a F D)(c:D.dead=false)(d:Sl st X v 1 (ai rec))(g:rec.length<=1000000000)
 (l:m.count<=1000000) (k:m.base<=4611686018427387904) (j:m.last<=4611686018427387904) (p:bf rec.length<=m.count) (e:¬m.last<m.top) (f:m.room<bf rec.length):R 131 [.ptr r 0,v] st λx st'=>x=I 3/\st'=st:=by
 have b:=h;obtain⟨q,n⟩:=h;refine bK ?_;rw[adU];refine(ya b i).same ?_;have o:¬((m.count:Int)<bf rec.length):=uM
 simp[c,d.len rec.length wb uM];refine(CU g).same ?_;simp[eQ,n,o];have s:¬m.count<bf rec.length:=uM
 refine(DW b).same ?_;simp[e];refine(Lq b l k j).same ?_;simp[f]
def OE (hf:eA st)(h:fL st r a m)(hd:cQ st a F D)(w:r∉F)(nj:D.dead=false)(S:Sl st F v 1 (ai rec))(hl:rec.length<=1000000)
 (h0:0<m.count) (h1:m.first+m.count<=65536) (Z:m.base<=4611686018427387904) (h3:m.last<=1000000000) (hc:bf rec.length<=m.count) (ht:¬m.last<m.top) (hr:¬m.room<bf rec.length) (hw:D.waits.length+65536<100000000):
 R 131 [.ptr r 0,v] st λx st'=>∃j,D.writes ((List.range (bf rec.length)).map (m.sr rec))=j/\x=I (if j.1=0 then 0 else 20)/\Kp (r::F) st st'/\(∃F',cQ st' a F' j.2/\∀b∈F',b∈F\/st.nx<=b)/\
   fL st' r a (if j.1=0 then {m with last:=m.last+bf rec.length,top:=m.last+bf rec.length}else m):=by
 have A:=h;obtain⟨g1,g2⟩:=h;refine bK ?_;rw[adU];refine(ya A hd).same ?_;have hlen:=S.len rec.length wb uM;have e1:¬((m.count:Int)<bf rec.length):=uM
 have e2:¬m.count<bf rec.length:=uM
 have e3:IntKind.i64.wrap (4611686018427387904-(bf rec.length:Int))=4611686018427387904-(bf rec.length:Int):=bA uM;have e4:¬(4611686018427387904-(bf rec.length:Int)<m.last):=uM
 simp only[nj,aHH,aHV,av,ff,aIS,aIb,af,ag,hlen];refine(CU uM).same ?_;simp only[eQ,bj,ah,af,az,g2,ar,aHN,aHI,aHG,aw,av,dh,e1,aJm,ag,aHH,aHV];refine(DW A).same ?_;simp only[ht,aJm,ag,aHH,aHV];refine(Lq A uM Z uM).same ?_;simp only[af,g2,ar,aHI,aHG,aw,av,dh,hr,aJm,ag,aHH,aHV,dS,e3,e4];show df _ _ _;simp only[aK,aL];generalize hN:bf rec.length=N at*
 refine bG (λfu vs s=>∃i z C,fu+i=N/\vs=[.ptr r 0,v,I N,I N,I i]/\Kp F st s/\cQ s a C z/\(∀b∈C,b∈F\/st.nx<=b)/\z.dead=false/\z.waits.length=D.waits.length+i/\D.writes ((List.range N).map (m.sr rec))=z.writes (((List.range N).drop i).map (m.sr rec))) ?_ (n:=N)
  ⟨0,D,F,rfl,rfl,Kp.refl _ _,hd,afk,nj,rfl,wb⟩
 rintro fu vs s k ⟨i,z,C,hi,rfl,y,XK,J,ac,Zu,o⟩ next;have hn:=y.nx;have B:=A.keep y w;simp only[aK,aL]
 by_cases hlt:i<N
 .have a1:aj .lss none false (I i) (I N) s=.ok (.bool true) s:=by rw[av,c8,aHQ uM]
  simp only[a1,af,ag,aIj,bD];have Q:Kp [] s (St.new s (.cells [.int .i64 0,.bool false,.ae] 200 false)):=(Kp.refl _ s).new _;have g7:(St.new s (.cells [.int .i64 0,.bool false,.ae] 200 false)).m.g s.nx=some (.cells [.int .i64 0,.bool false,.ae] 200 false):=au _ _;have U:(St.new s (.cells [.int .i64 0,.bool false,.ae] 200 false)).nx=s.nx+1:=rfl;generalize St.new s (.cells [.int .i64 0,.bool false,.ae] 200 false)=c at*;have T:=B.keep Q wb;have ZS:=T.2;have G:=(S.mono y).mono (Q.mono wb);have am:=G.len rec.length wb uM;have b1:aj .add none true (I m.last) (.int .i64 1) c=.ok (I ((m.last+1:Nat):Int)) c:=F7
  have b2:aj .add none false (I ((m.last+1:Nat):Int)) (I i) c=.ok (I ((m.last+1+i:Nat):Int)) c:=F7
  have b3:aj .sub none true (I N) (.int .i64 1) c=.ok (I ((N-1:Nat):Int)) c:=Gd
  have b4:aj .eql (some .int) false (I i) (I ((N-1:Nat):Int)) c=.ok (.bool (decide (i+1=N))) c:=by
   rw[av,cC];congr 2;simp only[aIi];omega
  have b5:aj .mul none true (I i) (.int .i64 501) c=.ok (I ((i*501:Nat):Int)) c:=Ww
  have b6:aj .add none true (I ((i*501:Nat):Int)) (.int .i64 501) c=.ok (I ((i*501+501:Nat):Int)) c:=F7
  have b7:C0 false (I ((i*501+501:Nat):Int)) (I rec.length) c=.ok (I ((min (i*501+501) rec.length:Nat):Int)) c:=by
   have e:C0 false (I ((i*501+501:Nat):Int)) (I rec.length) c=.ok (I (if (rec.length:Int)<((i*501+501:Nat):Int)then (rec.length:Int)else ((i*501+501:Nat):Int))) c:=rfl;rw[e];congr 2;split<;>omega
  have FW:=GU (len:=rec.length) (i:=i) (by rw[hN];exact hlt);obtain⟨f,p1,p2⟩:=G.both (n:=rec.length) uM wb (l:=i*501) (h:=min (i*501+501) rec.length) uM uM c
  have VD:List.take ((min (i*501+501) rec.length-i*501)*1) (List.drop (i*501*1) (ai rec))=ai (cO rec m.last N i).data:=by
   unfold cO ai;rw[aJr,aJr,<-aJs,<-aJI]
   congr 1
   by_cases hm:i*501+501<=rec.length
   .rw[aIC hm];congr 1;omega
   .rw[Nat.min_eq_right uM,aHS wb,aHS zS]
  rw[VD]at p2;obtain⟨M,L,K⟩:=p2.bL
  have mo:aZ [.int .i64 0,.bool false,.ae] [(0,1,I ((m.last+1+i:Nat):Int)),(1,1,.bool (decide (i+1=N))),(2,1,f)] c=.ok (.agg [I ((m.last+1+i:Nat):Int),.bool (decide (i+1=N)),f]) c:=by
   rw[dB];simp[cE,bz,M,K]
  have kJ:bz [.int .i64 0,.bool false,.ae] 0 [I ((m.last+1+i:Nat):Int),.bool (decide (i+1=N)),f]=[I ((m.last+1+i:Nat):Int),.bool (decide (i+1=N)),f]:=dU _ _ rfl;simp only[bj,ah,af,az,ZS,ar,aHN,aHI,aHG,aw,b1,b2,b3,b4,b5,b6,am,b7,p1,mo,kh g7,aP,aH,g7,aS,aT,kJ];refine⟨⟨rfl,by simp[L],wb⟩,⟨afp,afp,afp⟩,afp,?_⟩;have k8:Kp [] s (St.set c s.nx (.cells [I ((m.last+1+i:Nat):Int),.bool (decide (i+1=N)),f] 200 false)):=Q.set _ (.inr (aHK _)) uM;have g8:(St.set c s.nx (.cells [I ((m.last+1+i:Nat):Int),.bool (decide (i+1=N)),f] 200 false)).m.g s.nx=some (.cells [I ((m.last+1+i:Nat):Int),.bool (decide (i+1=N)),f] 200 false):=an _ _ _;have Zf:Kp [s.nx] c (St.set c s.nx (.cells [I ((m.last+1+i:Nat):Int),.bool (decide (i+1=N)),f] 200 false)):=(Kp.refl _ c).set _ (.inl wb) uM;have ax:(St.set c s.nx (.cells [I ((m.last+1+i:Nat):Int),.bool (decide (i+1=N)),f] 200 false)).nx=s.nx+1:=U
  have p8:Sl (St.set c s.nx (.cells [I ((m.last+1+i:Nat):Int),.bool (decide (i+1=N)),f] 200 false)) [] f 1 (ai (cO rec m.last N i).data):=by
   obtain⟨v3,p3,p4⟩:=((S.mono y).eH (Y:=[]) wb).both (n:=rec.length) uM wb (l:=i*501) (h:=min (i*501+501) rec.length) uM uM c;rw[p1]at p3;cases p3;rw[VD]at p4;exact p4.mono k8
  generalize St.set c s.nx (.cells [I ((m.last+1+i:Nat):Int),.bool (decide (i+1=N)),f] 200 false)=s8 at*;rw[aM (n:=3) g8 rfl,af];have Mf:(cO rec m.last N i).data.length<=501:=acY
  refine(CO (p:=cO rec m.last N i) p8 Mf acY).mono ?_;rintro _ d ⟨rfl,P⟩;have jS:=Piece.rk (cO rec m.last N i) Mf;have ZJ:(ai (cO rec m.last N i).bX).length=512:=by simpa using jS
  have Mz:(St.new d (.cells (zr 512) 233 false)).m.g d.nx=some (.cells (zr 512) 233 false):=au _ _;have AZ:bz (zr 512) 0 (ai (cO rec m.last N i).bX)=ai (cO rec m.last N i).bX:=dU _ _ (by rw[ZJ];exact List.length_replicate.symm);simp only[cz,aP,aH,Mz,aS,aT,AZ];refine⟨⟨ZJ,bu _,wb⟩,?_⟩;have aq:=P.nx;have E:Kp [] s (St.set (St.new d (.cells (zr 512) 233 false)) d.nx (.cells (ai (cO rec m.last N i).bX) 233 false)):=((k8.trans P wb).new _).set _ (.inr uM) wb;have QC:Kp [] d (St.set (St.new d (.cells (zr 512) 233 false)) d.nx (.cells (ai (cO rec m.last N i).bX) 233 false)):=((Kp.refl _ d).new _).set _ (.inr (aHK _)) wb;have ab:(St.set (St.new d (.cells (zr 512) 233 false)) d.nx (.cells (ai (cO rec m.last N i).bX) 233 false)).m.g d.nx=some (.cells (ai (cO rec m.last N i).bX) 233 false):=an _ _ _;have ay:(St.set (St.new d (.cells (zr 512) 233 false)) d.nx (.cells (ai (cO rec m.last N i).bX) 233 false)).nx=d.nx+1:=rfl;generalize St.set (St.new d (.cells (zr 512) 233 false)) d.nx (.cells (ai (cO rec m.last N i).bX) 233 false)=dQ at*;have ZT:=B.keep E wb;have Xr:=ZT.2;have aa:=(QC.keep s.nx uM wb).trans ((P.keep s.nx uM wb).trans g8);simp only[Xr,aa,ar,aHG,aw];refine(As ZT h0 uM (n:=m.last+1+i) uM).same ?_;have zH:bT 512 1 (.ptr d.nx 0) none none dQ=.ok (.slice d.nx 0 512 512 0) dQ:=rfl;simp only[zH,af,Xr,ar,aHG,aw];have ao:Sl dQ C (.slice d.nx 0 512 512 0) 1 (ai (cO rec m.last N i).bX):=.inr ⟨d.nx,0,512,512,0,rfl,by rw[ZJ],⟨aHK _,.inl rfl⟩,.inr ⟨λh=>by have:=XK.lt _ h;omega,uM,_,_,_,ab,uM,Yv⟩⟩;refine(wg (XK.keep E wb) (E.fresh (y.fresh hf)) uM ao jS).mono ?_;rintro _ eu ⟨rfl,O,F',H,oX⟩;have aA:=O.nx;have Kx:=(y.trans E wb).trans O J;have zw:=λb W=>(oX b W).elim (J b) λh=>.inr (by have:=E.nx;omega)
  have ak:r∉C:=λh=>(J r h).elim w λZ=>by have:=A.1;omega
  have ad:=ZT.keep O ak
  have ap:(List.range N).drop i=i::(List.range N).drop (i+1):=by
   rw[aIe Yt];simp
  have HD:m.sr rec i=(m.place (m.last+1+i),(cO rec m.last N i).bX):=by unfold RingM.sr;rw[hN]
  rw[ap,aIt,HD]at o;simp only[aU.writes]at o;refine⟨⟨⟨afp,afp⟩,afp,afp⟩,afp,?_⟩
  by_cases u:(z.write ((m.place (m.last+1+i):Nat):Int) (cO rec m.last N i).bX).1=0
  .rw[aHP u]at o;obtain⟨z1,z2,z3⟩:=zQ u;have a3:∀s,ki .add .i64 (i:Int) .i64 1 s=.ok (I ((i+1:Nat):Int)) s:=λs=>by rw[cI,bA uM];rfl
   simp only[u,av,ff,aIS,aIb,af,ag,aHH,aHV,a3];exact next (fu-1) _ _ uM ⟨i+1,_,F',uM,rfl,Kx,H,zw,by rw[z1];exact ac,by rw[z2];simp;omega,o⟩
  .rw[aHM u]at o;simp only[av,ff,u,aJm,aHY,af,ag,aIj];refine⟨_,o,by rw[aHM u],Kx.mono (λq hq=>.inl aaa),⟨F',H,zw⟩,?_⟩;rw[aHM u];exact ad
 .have a1:aj .lss none false (I i) (I N) s=.ok (.bool false) s:=by rw[av,c8,aHL uM]
  have V:i=N:=uM
  subst V;have al:=B.2;simp only[a1,af,ag,aHH,aHV];have Ro:(List.range i).drop i=[]:=aIp wb;rw[Ro]at o;have a2:aj .add none false (I m.last) (I i) s=.ok (I ((m.last+i:Nat):Int)) s:=F7
  have c1:bz [CV.ptr a 0,I m.first,I m.count,I m.base,I m.last,I m.top] 4 [I ((m.last+i:Nat):Int)]=[CV.ptr a 0,I m.first,I m.count,I m.base,I ((m.last+i:Nat):Int),I m.top]:=rfl;have c2:bz [CV.ptr a 0,I m.first,I m.count,I m.base,I ((m.last+i:Nat):Int),I m.top] 5 [I ((m.last+i:Nat):Int)]=[CV.ptr a 0,I m.first,I m.count,I m.base,I ((m.last+i:Nat):Int),I ((m.last+i:Nat):Int)]:=rfl;simp only[bj,ah,af,az,al,ar,aHN,aHI,aHG,aw,a2,mc,aH,aS,ji,c1,an,c2,set_set];refine⟨⟨rfl,rfl,wb⟩,⟨rfl,rfl,wb⟩,(0,z),o,rfl,(y.mono λq hq=>.inl aaa).set _ (.inl wb) B.1,⟨C,XK.keep (X:=[r]) ((Kp.refl _ s).set _ (.inl wb) B.1) (λb W=>by simp;exact λe=>(J r (e▸W)).elim w λZ=>by have:=A.1;omega),J⟩,?_⟩;exact⟨B.1,an _ _ _⟩
end
end
