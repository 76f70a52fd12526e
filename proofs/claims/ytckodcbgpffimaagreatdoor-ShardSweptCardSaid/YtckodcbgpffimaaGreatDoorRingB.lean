import Derived.Test.YtckodcbgpffimaaGreatDoorRingA
namespace Lim
open Go
noncomputable section
set_option linter.defProp false
set_option maxRecDepth 100000
section
variable {G:δ Nat}{vs:δ K}{L:δ (δ Γ)}
section
variable {Z Z':O}
def uM {f:K}{args:δ K}{Q a:K->O->Prop}(h:eJ Rq0 f args Z Q)(b:∀v s,Q v s->a v s):eJ Rq0 f args Z a:=by
 unfold eJ at*
 split at h
 .exact Rq0.mono h b
 .exact h.elim
def qZ (Z:O)(G:δ Nat):δ K->δ (δ Γ)->Prop
 |[],[]=>True
 |v::vs,l::ls=>mP Z G v 1 (al l)/\qZ Z G vs ls
 |_,_=>False
def qZ.keep {X:δ Nat}(h:qZ Z G vs L)(d:Kp X Z Z')(c:∀b∈G,b∉X):qZ Z' G vs L:=by
 induction vs generalizing L with
 |nil=>cases L with|nil=>trivial|cons l L=>exact h
 |cons v vs a=>cases L with|nil=>exact h|cons l L=>exact⟨h.1.keep d c,a h.2⟩
def qZ.mono {H:δ Nat}(h:qZ Z G vs L)(c:∀b∈G,b∈H):qZ Z H vs L:=by
 induction vs generalizing L with
 |nil=>cases L with|nil=>trivial|cons l L=>exact h
 |cons v vs a=>cases L with|nil=>exact h|cons l L=>exact⟨h.1.mono c,a h.2⟩
def qZ.snoc {v:K}{l:δ Γ}(h:qZ Z G vs L)(b:mP Z G v 1 (al l)):qZ Z G (vs++[v]) (L++[l]):=by
 induction vs generalizing L with
 |nil=>cases L with|nil=>exact⟨b,gt⟩|cons l L=>exact h.elim
 |cons v vs a=>cases L with|nil=>exact h.elim|cons l L=>exact⟨h.1,a h.2⟩
def qZ.len (h:qZ Z G vs L):vs.length=L.length:=by
 induction vs generalizing L with
 |nil=>cases L with|nil=>rfl|cons l L=>exact h.elim
 |cons v vs a=>cases L with|nil=>exact h.elim|cons l L=>simp[a h.2]
def jq (P:Nat->Piece)(count:Nat):Nat->Nat->δ Γ->δ (δ Γ)->Nat->δ (δ Γ)×Nat
 |0,_,_,out,last=>(out,last)
 |f+1,n,now,out,last=>if (P ((n+1)%count)).n=n+1 then
   (if (P ((n+1)%count)).last=θ then jq P count f (n+1) [] (out++[now++(P ((n+1)%count)).data]) (n+1)else jq P count f (n+1) (now++(P ((n+1)%count)).data) out last)
  else (out,last)
def MN (Z:O)(x:K)(L:δ (δ Γ))(a G:δ Nat):Prop:=∃vs,Own Z x 1 126 vs a/\qZ Z G vs L/\(∀b∈a,b<Z.nx)/\(∀b∈G,b<Z.nx)/\∀b∈a,b∉G
structure aeL (qy:O)(r a c q:Nat)(F:List Nat)(D:aX)(P:Nat->Piece)(m:RingM)(f:K)(fuel:Nat)(vs:List K)(s:O)(n:Nat)(now:List UInt8)(out:List (List UInt8))(last:Nat)(xo xn:K)(Fo Fn G:List Nat):Prop where
 vs:vs=[.ptr r 0,xo,xn,f]
 fu:n+fuel=m.base+m.count
 lo:m.base<=n
 kp:Kp [r] qy s
 ring:gR s r a {m with last:=last}
 MB:dz s a F D
 nx:tl s f c q r n
 ahq:MN s xo out Fo G
 own:Own s xn 1 5 (al now) Fn
 ltn:∀b∈Fn,b<s.nx
 ge:∀b,b∈Fo\/b∈Fn\/b∈G->qy.nx<=b/\b≠c/\b≠q
 Og:∀b∈Fn,b∉Fo/\b∉G
 szn:now.length<=501*n
 szo:out.length<=n
 tgt:jq P m.count fuel n now out last=jq P m.count m.count m.base [] [] m.last
def KT {r a:Nat}{m:RingM}{F:δ Nat}{D:aX}{P:Nat->Piece}(hf:dV Z)(h:gR Z r a m)(hd:dz Z a F D)(hr:r∉F)(yA:D.dead=φ)(M:xt D m P)(hb:m.base<=1000000000):
 Rq0 157 [.ptr r 0] Z λx Z'=>∃N Fo G,x=.tuple [N,μ]/\Kp [r] Z Z'/\gR Z' r a {m with last:=(jq P m.count m.count m.base [] [] m.last).2}/\MN Z' N (jq P m.count m.count m.base [] [] m.last).1 Fo G/\∀b,b∈Fo\/b∈G->Z.nx<=b:=by
 refine bE ?_;rw[aqg];show Rq0 203 [.ptr r 0] Z _;refine(Lf h).mono ?_;rintro f s1 ⟨k1,c,q,Dj,hc,hq⟩;simp only[ke];refine bD (λfuel vs s=>∃n o H last N xn Fo Fn G,aeL Z r a c q F D P m f fuel vs s n o H last N xn Fo Fn G) ?_ (n:=m.count) ⟨m.base,[],[],m.last,.ae,.ae,[],[],[],rfl,rfl,hI _,k1.mono V,h.keep k1 V,hd.keep k1 V,Dj,⟨[],.inl ⟨rfl,rfl,rfl⟩,gt,V,V,V⟩,.inl ⟨rfl,rfl,rfl⟩,V,V,V,V,V,rfl⟩;rintro fuel vs s k ⟨n,o,H,last,N,xn,Fo,Fn,G,I⟩ next;obtain⟨rfl,i1,i2,i3,i4,i5,i6,i7,i8,i9,i,ab,bh,bg,y⟩:=I;have Ty:∀s:O,True:=λ_=>trivial;have tE:=i3.nx;have br:=h.1;have Zo:xt D {m with last:=last} P:=⟨M.pos,M.fits,M.jT,M.base,M.cur⟩;simp only[ke];obtain⟨C,j1,j2,j3,j4,j5⟩:=i7;have NQ:∀(s':O),Kp [c] s s'->Kp [r] Z s':=λs' hk=>i3.trans hk (by simp;right;exact hc)
 by_cases BW:fuel=0
 .subst BW;refine uM (Sg i4 Zo i6 (by simpa using i1)) ?_;rintro _ d ⟨rfl,k3⟩;have g4:(O.new d ϐc).m.g d.nx=Φ ϐc:=ay _ _;have kk:∀blk,Kp [] s (O.set (O.new d ϐc) d.nx blk):=λblk=>(k3.new _).set _ (.inr k3.nx) V;simp only[DK,bW,GE,g4,aN,au,dJ,PO,ï,ii,tw,bZ,ix];refine⟨⟨rfl,rfl,tW⟩,N,Fo,G,rfl,i3.trans (kk _) V,?_,?_,λb hb=>(i b (by rcases hb with h|h<;>simp[h])).1⟩
  .rw[<-y];exact i4.keep (kk _) V
  .rw[<-y];exact⟨C,j1.keep (kk _) λb hb=>⟨j3 b hb,V⟩,j2.keep (kk _) V,λb hb=>ov (j3 b hb) (kk (.map [] 0)).nx,λb hb=>ov (j4 b hb) (kk (.map [] 0)).nx,j5⟩
 .obtain⟨fu,rfl⟩:∃fu,fuel=fu+1:=⟨fuel-1,J⟩;have ac:r≠c:=by omega
  have Zh:r≠q:=J
  have ax:c∉F:=λh=>by have:=hd.lt c h;omega
  refine uM (Wy (i3.fresh hf) i4 i5 hr yA Zo i6 xI (by simpa using i2) xI ac Zh ax) ?_;rintro _ d ⟨_,rfl,⟨v,Fv,rfl,k3,ho,PU⟩,bd⟩;have e0:RingM.is {m with last:=last} P (n+1)↔(P ((n+1)%m.count)).n=n+1:=Iff.rfl;rw[show decide (RingM.is {m with last:=last} P (n+1))=decide ((P ((n+1)%m.count)).n=n+1)from decide_eq_decide.2 e0];simp only[jq]at y;generalize hP:P ((n+1)%m.count)=p at*;have g4:(O.new d ϐc).m.g d.nx=Φ ϐc:=ay _ _;have nv:bC ϐ0 0 [I p.n,.bool p.last,v]=[I p.n,.bool p.last,v]:=db _ _ rfl;obtain⟨o1,o2⟩:=ho.cI;have k5:Kp [c] s (O.set (O.new d ϐc) d.nx (ϙ [I p.n,.bool p.last,v])):=(k3.new _).set _ (.inr k3.nx) V;have Qs:Kp [] d (O.set (O.new d ϐc) d.nx (ϙ [I p.n,.bool p.last,v])):=((Δ _ d).new _).set _ (.inr (hI _)) V;have g5:(O.set (O.new d ϐc) d.nx (ϙ [I p.n,.bool p.last,v])).m.g d.nx=Φ (ϙ [I p.n,.bool p.last,v]):=ao ..;have bn:(O.set (O.new d ϐc) d.nx (ϙ [I p.n,.bool p.last,v])).nx=d.nx+1:=rfl;simp only[DK,bW,GE,g4,aN,nv,au,dJ,PO,ï,ii,tw,bZ];refine⟨⟨rfl,Vf,tW⟩,?_⟩;generalize O.set (O.new d ϐc) d.nx (ϙ [I p.n,.bool p.last,v])=s5 at*;have bp:=k3.nx;have nc:∀b,b∈Fo\/b∈Fn\/b∈G->b∉[c]:=λb hb=>by simpa using (i b hb).2.1
  have av:=i4.keep k5 (by simpa using ac);have ba:=i5.keep k5 (λb hb=>by simp;exact λe=>ax (e▸hb));have a6:=bd.keep Qs V V;have am:=j1.keep k5 λb hb=>⟨j3 b hb,nc b (.inl hb)⟩;have aj:=j2.keep k5 λb hb=>nc b (.inr (.inr hb));have aH:=i8.keep k5 λb hb=>⟨i9 b hb,nc b (.inr (.inl hb))⟩;have aI:=ho.keep Qs λb hb=>⟨(PU b hb).2,V⟩
  by_cases w:p.n=n+1
  .rw[jp w,r8,B tW];rw[gq w]at y
   have bq:p.data.length<=501:=by
    obtain⟨_,u⟩:=M.cur _ (NO (n+1) M.pos);rw[hP]at u;exact u.2.1
   have a7:∀b∈Fv,s.nx<=b/\b<s5.nx/\b≠d.nx:=λb hb=>by have:=PU b hb;omega
   have a8:Sl s5 [] v 1 (al p.data):=aI.sl λb hb=>⟨V,(a7 b hb).2.1⟩;obtain⟨nn,aw,vY⟩:=a8.src [ϕ];simp at aw;subst aw;have q1:=M.fits;have q2:=M.jT;obtain⟨z,j,l,a1,a2,W,a4⟩:=aH.append (n:=p.data.length) (bytes:=1) (T:=al p.data) J V (bK _) (λb hb=>by have:=i9 b hb;omega) xI;have bm:=W.nx;have aL:d.nx∉Fn:=λh=>by have:=i9 _ h;omega
   have g6:=(W.keep d.nx J aL).trans g5;simp only[fl,ly,g5,kc,io,vY,a1,aP,g6,ag];have Y:∀b∈l,(b∈Fn\/s5.nx<=b)/\b<j.nx:=λb hb=>⟨(a4 b hb).1.imp id λh=>J,(a4 b hb).2⟩;have nF:∀b,b∈Fo\/b∈G->b∉Fn:=λb hb h=>(hb.elim (ab b h).1 (ab b h).2);have lF:∀b,b∈Fo\/b∈G->b<s5.nx:=λb hb=>by rcases hb with h|h;have:=j3 b h;omega;have:=j4 b h;omega
   have nr:r∉Fn:=λh=>by have:=(i r (.inr (.inl h))).1;omega
   have aW:c∉Fn:=λh=>(i c (.inr (.inl h))).2.1 rfl;have aS:q∉Fn:=λh=>(i q (.inr (.inl h))).2.2 rfl;have aq:=av.keep W nr;have Hg:=ba.keep W (λb hb h=>by have:=(i b (.inr (.inl h))).1;have:=hd.lt b hb;omega);have an:=a6.keep W aW aS;have ak:=am.keep W λb hb=>⟨lF b (.inl hb),nF b (.inl hb)⟩;have ai:=aj.keep W λb hb=>nF b (.inr hb);have Gu:=(NQ s5 k5).trans W λb hb=>.inr (i b (.inr (.inl hb))).1
   have ad:∀b,b∈Fo\/b∈l\/b∈G->Z.nx<=b/\b≠c/\b≠q:=λb hb=>by
    rcases hb with hb|hb|hb
    .exact i b (.inl hb)
    .rcases(Y b hb).1 with h|h
     .exact i b (.inr (.inl h))
     .have:=i6.2.1;have:=i6.2.2.1;omega
    .exact i b (.inr (.inr hb))
   have Tn:∀b∈l,b∉Fo/\b∉G:=λb hb=>by
    rcases(Y b hb).1 with h|h
    .exact ab b h
    .exact⟨λh2=>by have:=lF b (.inl h2);omega,λh2=>by have:=lF b (.inr h2);omega⟩
   by_cases hl:p.last=θ
   .rw[gq hl];rw[gq hl]at y;have Xw:=Gu.fresh hf;obtain⟨b1,b2⟩:=a2.cI;have b3:=(a2.sl (X:=[]) λb hb=>⟨V,(Y b hb).2⟩).bM.1
    have BV:gY [(0,1,z)] (cr 1 [K.ae])=Φ [z]:=by
     rw[cW,gq ⟨⟨by rw[b2];rfl,b3⟩,by rw[b2];exact hI _⟩,mi,b2];rfl
    have gX:(O.skip j).m.g j.nx=ν:=Xw _ (hI _);rw[aZ,fY gX BV,aP];have Q:Kp [] j (O.set (O.skip j) j.nx (ϸ [z])):=((Δ _ j).skip).set _ (.inr (hI _)) V;have bb:(O.set (O.skip j) j.nx (ϸ [z])).m.g j.nx=Φ (ϸ [z]):=ao ..;have bl:(O.set (O.skip j) j.nx (ϸ [z])).nx=j.nx+1:=rfl;generalize O.set (O.skip j) j.nx (ϸ [z])=s7 at*;have a0:=ak.keep Q λb hb=>⟨by have:=lF b (.inl hb);omega,V⟩;have ah:=ai.keep Q V
    have aG:mP s7 l z 1 (al (o++p.data)):=by
     have:=a2.keep Q λb hb=>⟨(Y b hb).2,V⟩;rw[bQ];exact this.ahd λb hb=>by have:=(Y b hb).2;omega
    have bi:=ah.len;rw[wm (k:=1) (n:=1) bb J rfl];obtain⟨aD,s8,aC,c1,c2,S,c4⟩:=a0.append (n:=1) (bytes:=24) (T:=[z]) J rfl (by rw[De,b1];rfl) (λb hb=>by have:=lF b (.inl hb);omega) xI;have bj:=S.nx;have be:d.nx∉Fo:=λh=>by have:=j3 _ h;omega
    have aM:r∉Fo:=λh=>by have:=(i r (.inl h)).1;omega
    have aT:c∉Fo:=λh=>(i c (.inl h)).2.1 rfl;have aQ:q∉Fo:=λh=>(i q (.inl h)).2.2 rfl;have g7:=(Q.keep d.nx J V).trans g6;have g8:=(S.keep d.nx J be).trans g7;have ap:=(aq.keep Q V).keep S aM;have bc:=ap.2;have NU:=(Hg.keep Q V).keep S (λb hb h=>by have:=(i b (.inl h)).1;have:=hd.lt b hb;omega);have a5:=(an.keep Q V V).keep S aT aQ;have a9:=(Gu.trans Q V).trans S λb hb=>.inr (i b (.inl hb)).1;have aY:=ah.keep S λb hb h=>j5 b h hb;have aF:=aG.keep S λb hb h=>(Tn b hb).1 h;have TA:∀b∈aC,(b∈Fo\/s7.nx<=b)/\b<s8.nx:=λb hb=>⟨(c4 b hb).1.imp id λh=>J,(c4 b hb).2⟩;have bf:bC [K.ptr a 0,I m.first,I m.count,I m.base,I last,I m.top] 4 [I p.n]=[K.ptr a 0,I m.first,I m.count,I m.base,I p.n,I m.top]:=rfl;simp only[c1,GE,zae,af,g7,g8,io,bk,bc,jR,bf];refine⟨⟨rfl,rfl,V⟩,⟨⟨gt,gt,gt⟩,gt⟩,⟨gt,gt⟩,?_⟩;have az:=ap.1;have jh:∀b,b≠r->(O.set s8 r (Ú [.ptr a 0,I m.first,I m.count,I m.base,I p.n,I m.top])).m.g b=s8.m.g b:=λb hb=>ar _ _ _ _ hb;have k9:Kp [r] s8 (O.set s8 r (Ú [.ptr a 0,I m.first,I m.count,I m.base,I p.n,I m.top])):=(Δ _ s8).set _ (.inl V) az;have aa:∀b,Z.nx<=b->b∉[r]:=λb hb=>xI
    refine next fu _ _ J ⟨n+1,[],H++[o++p.data],n+1,aD,.ae,aC,[],l++G,rfl,J,J,a9.trans k9 V,⟨az,by rw[ao,w]⟩,NU.keep k9 (λb hb=>by simp;exact λe=>hr (e▸hb)),a5.keep k9 (by simpa using ny ac) (by simpa using ny Zh),⟨C++[z],c2.keep k9 λb hb=>⟨(TA b hb).2,aa b ?_⟩,?_,λb hb=>(TA b hb).2,?_,?_⟩,.inl ⟨rfl,rfl,rfl⟩,V,?_,V,V,xI,y⟩
    .rcases(TA b hb).1 with h|h
     .exact(i b (.inl h)).1
     .have:=Gu.nx;omega
    .refine qZ.snoc ((aY.keep k9 λb hb=>aa b (i b (.inr (.inr hb))).1).mono λb hb=>OG) ((aF.keep k9 λb hb=>aa b ?_).mono λb hb=>OG);exact(ad b (.inr (.inl hb))).1
    .intro b hb;show b<s8.nx;rcases lh.1 hb with h|h
     .have:=(Y b h).2;omega
     .have:=lF b (.inr h);omega
    .intro b hb h2;rcases(TA b hb).1 with h|h
     .rcases lh.1 h2 with h3|h3
      .exact(Tn b h3).1 h
      .exact j5 b h h3
     .rcases lh.1 h2 with h3|h3
      .have:=(Y b h3).2;omega
      .have:=lF b (.inr h3);omega
    .intro b hb;rcases hb with hb|hb|hb
     .rcases(TA b hb).1 with h|h
      .exact i b (.inl h)
      .have:=Gu.nx;have:=i6.2.1;have:=i6.2.2.1;omega
     .simp at hb
     .rcases lh.1 hb with h|h
      .exact ad b (.inr (.inl h))
      .exact i b (.inr (.inr h))
   .rw[B hl];rw[B hl]at y;refine next fu _ _ J ⟨n+1,o++p.data,H,last,N,z,Fo,l,G,rfl,J,J,Gu,aq,Hg,an,⟨C,ak,ai,λb hb=>by have:=j3 b hb;omega,λb hb=>by have:=j4 b hb;omega,j5⟩,by rw[bQ];exact a2,λb hb=>(Y b hb).2,ad,Tn,xI,J,y⟩
  .rw[jo w,ra,gq rfl];rw[B w]at y;refine⟨N,Fo,G,rfl,NQ s5 k5,?_,?_,λb hb=>(i b (by rcases hb with h|h<;>simp[h])).1⟩
   .rw[<-y];exact av
   .rw[<-y];exact⟨C,am,aj,λb hb=>by have:=j3 b hb;omega,λb hb=>by have:=j4 b hb;omega,j5⟩
end
end
section
variable {Z Z':O}
def lu (P:Nat->Piece)(count base:Nat):Nat->Nat
 |0=>base
 |i+1=>if (P i).n≠0/\(P i).n%count=i then max (lu P count base i) (P i).n else lu P count base i
def AA (P:Nat->Piece)(count base Bq0:Nat)(b:base<=Bq0)(h:∀j,j<count->(P j).n<=Bq0):∀i,i<=count->lu P count base i<=Bq0:=by
 intro i
 induction i with
 |zero=>intro _;exact b
 |succ i a=>
  intro hi;simp only[lu];have:=a J;have:=h i J
  split<;>omega
def RingM.opened (first count base:Nat)(P:Nat->Piece):RingM:=⟨first,count,base,(jq P count count base [] [] base).2,lu P count base count⟩
def HQ {a:Nat}{F:δ Nat}{D:aX}{P:Nat->Piece}{first count base:Nat}(hf:dV Z)(M:dz Z a F D)(yA:D.dead=φ)(d:xt D ⟨first,count,base,base,base⟩ P)(N:base<=1000000000):
 Rq0 110 [.ptr a 0,I first,I count,I base] Z λx Z'=>∃r p y G,x=.tuple [.ptr r 0,p,μ]/\Kp [] Z Z'/\gR Z' r a (RingM.opened first count base P)/\MN Z' p (jq P count count base [] [] base).1 y G/\(∀b,b∈y\/b∈G->Z.nx<=b)/\Z.nx<=r:=by
 refine bE ?_;rw[aqQ];have q0:0<count:=d.pos;have q1:first+count<=D.aB.length:=d.fits
 have q2:=d.jT;simp only[cc,ll,ii];refine(zl M).same ?_;have e1:¬(first:Int)<0:=J
 have e2:¬(count:Int)<1:=J
 have e3:¬(D.aB.length:Int)<count:=J
 have e4:IntKind.i64.wrap ((D.aB.length:Int)-count)=(D.aB.length:Int)-count:=bt J;have e5:¬((D.aB.length:Int)-count<first):=J
 have e6:¬(base:Int)<0:=J
 have e7:¬(4611686018427387904:Int)<base:=J
 have ql:aR [.bq,μ,μ,μ,μ,μ] [(0,1,.ptr a 0),(1,1,I first),(2,1,I count),(3,1,I base),(4,1,I base),(5,1,I base)] Z=.ok (.agg [.ptr a 0,I first,I count,I base,I base,I base]) Z:=by
  rw[eK];simp[cW,bC]
 simp only[au,cU,cQ,dY,e1,e2,e3,e4,e5,e6,e7,FS,ii,GT,ql,bz,aN];refine⟨rfl,?_⟩;show cV ..;simp only[ke];refine bD (λfu vs s=>∃i,fu+i=count/\vs=[I first,.ptr Z.nx 0,I count,I i]/\Kp [] Z s/\gR s Z.nx a ⟨first,count,base,base,lu P count base i⟩) ?_ (n:=count) ⟨0,rfl,rfl,(Δ _ Z).new _,V,ay _ _⟩;rintro fu vs s k ⟨i,hi,rfl,l,u⟩ next;have hn:=l.nx;have Av:=M.keep l V;have o:Z.nx∉F:=λh=>by have:=M.lt _ h;omega
 have ab:=AA P count base 4611686018427387904 J (λj hj=>(d.cur j hj).2.1);simp only[ke]
 by_cases hc:i<count
 .have z:(i:Int)<count:=by omega
  have Y:R .lss ν false (I i) (I count) s=.ok ι s:=by rw[au,cU,jp z]
  have a2:R .add ν false (I first) (I i) s=.ok (ζ (first+i)) s:=EW
  simp only[Y,a2,xl,ix];obtain⟨u1,u2⟩:=d.cur i hc;refine(HO (l.fresh hf) u Av o yA q0 xI (at_:=first+i) J u2 u1).mono ?_;rintro _ c ⟨_,rfl,v,rfl,Fv,k5,ho,PU⟩;have H:=k5.nx;obtain⟨o1,o2⟩:=ho.cI;have Ha:(RingM.place ⟨first,count,base,base,lu P count base i⟩ (P i).n=first+i)↔(P i).n%count=i:=by unfold RingM.place;simp
  have g4:(O.new c ϐc).m.g c.nx=Φ ϐc:=ay _ _;have nv:bC ϐ0 0 [I (P i).n,.bool (P i).last,v]=[I (P i).n,.bool (P i).last,v]:=db _ _ rfl;have C:Kp [] s (O.set (O.new c ϐc) c.nx (ϙ [I (P i).n,.bool (P i).last,v])):=(k5.new _).set _ (.inr H) V;have g7:(O.set (O.new c ϐc) c.nx (ϙ [I (P i).n,.bool (P i).last,v])).m.g c.nx=Φ (ϙ [I (P i).n,.bool (P i).last,v]):=ao ..;have aa:(O.set (O.new c ϐc) c.nx (ϙ [I (P i).n,.bool (P i).last,v])).nx=c.nx+1:=rfl;simp only[bW,GE,g4,aN,nv,au,dJ,Al,ii,zY];refine⟨⟨rfl,Vf,tW⟩,?_⟩;generalize O.set (O.new c ϐc) c.nx (ϙ [I (P i).n,.bool (P i).last,v])=q at*;have f:=u.keep C V;have X:=f.2;have a3:∀s,lb .add .i64 (i:Int) .i64 1 s=.ok (ζ (i+1)) s:=λs=>by rw[cE,bt J];rfl
  have S:decide ((P i).n≠0/\RingM.place ⟨first,count,base,base,lu P count base i⟩ (P i).n=first+i)=decide ((P i).n≠0/\(P i).n%count=i):=decide_eq_decide.2 (and_congr_right λ_=>Ha);rw[S]
  by_cases w:(P i).n≠0/\(P i).n%count=i
  .rw[jp w,gq rfl]
   have Xn:Bk true (I (lu P count base i)) (I (P i).n) q=.ok (ζ (lu P count base (i+1))) q:=by
    have e:Bk true (I (lu P count base i)) (I (P i).n) q=.ok (I (if (lu P count base i:Int)<(P i).n then (P i).n else lu P count base i)) q:=rfl;rw[e];simp only[lu];rw[gq w]
    congr 2
    split<;>omega
   have W:bC [K.ptr a 0,I first,I count,I base,I base,I (lu P count base i)] 5 [ζ (lu P count base (i+1))]=[K.ptr a 0,I first,I count,I base,I base,ζ (lu P count base (i+1))]:=rfl;simp only[aZ,rr,X,g7,kc,io,Xn,xz,jR,W,a3];refine⟨⟨rfl,rfl,V⟩,⟨gt,gt,gt⟩,gt,?_⟩;exact next (fu-1) _ _ J ⟨i+1,J,rfl,(l.trans C V).set _ (.inr (hI _)) f.1,f.1,ao ..⟩
  .rw[jo w,B tW];simp only[a3,af];refine next (fu-1) _ _ J ⟨i+1,J,rfl,l.trans C V,?_⟩;have e:lu P count base (i+1)=lu P count base i:=by simp only[lu];rw[B w]
   rw[e];exact f
 .have z:¬(i:Int)<count:=by omega
  have L:i=count:=J
  have Y:R .lss ν false (I i) (I count) s=.ok Θ s:=by rw[au,cU,jo z]
  simp only[Y,ll,ii];rw[L]at u;refine(KT (l.fresh hf) u Av o yA ⟨d.pos,d.fits,d.jT,d.base,d.cur⟩ N).mono ?_;rintro _ s9 ⟨p,y,G,rfl,k9,r9,T,Q⟩;simp only[au,dJ,Al,ii,zY];exact⟨Z.nx,p,y,G,rfl,l.trans k9 V,r9,T,λb N=>rx hn (Q b N),hI _⟩
end
section
variable {D:aX}{r a:Nat}{m:RingM}{F:δ Nat}{v:K}{rec:δ Γ}
section
variable {Z Z':O}
def aX.writes (D:aX):δ (Nat×kh)->Int×aX
 |[]=>(0,D)
 |w::r=>if (D.write w.1 w.2).1=0 then (D.write w.1 w.2).2.writes r else D.write w.1 w.2
def cO (rec:δ Γ)(last n i:Nat):Piece:=⟨last+1+i,decide (i+1=n),(rec.drop (i*501)).take 501⟩
def RingM.Bc (m:RingM)(rec:δ Γ)(i:Nat):Nat×kh:=(m.place (m.last+1+i),(cO rec m.last (bf rec.length) i).bX)
def AS {i:Int}{s:kh}(h:(D.write i s).1=0):(D.write i s).2.dead=D.dead/\(D.write i s).2.waits=D.waits++[(i.toNat,s)]/\(D.write i s).2.aB=D.aB:=by
 unfold aX.write at*
 by_cases d:D.dead=θ
 .rw[gq d]at h;cases h
 .rw[B d]at h⊢
  by_cases c:i<0\/(D.aB.length:Int)<=i\/s.length≠512
  .rw[gq c]at h;cases h
  .rw[B c]at h⊢
   by_cases b:D.out
   .rw[gq b]at h;cases h
   .rw[B b];exact⟨rfl,rfl,rfl⟩
def Ic {len i:Nat}(h:i<bf len):i*501<=len:=by
 unfold bf at h
 split at h
 .omega
 .omega
def JK {X:δ Nat}(h:gR Z r a m)(i:dz Z a F D)(c:D.dead=φ)(d:Sl Z X v 1 (al rec))(g:rec.length<=1000000000)
 (l:m.count<=1000000) (k:m.base<=4611686018427387904) (j:m.last<=4611686018427387904) (p:bf rec.length<=m.count) (e:¬m.last<m.top) (f:m.room<bf rec.length):Rq0 186 [.ptr r 0,v] Z λx Z'=>x=I 3/\Z'=Z:=by
 have b:=h;obtain⟨q,n⟩:=h;refine bE ?_;rw[agE];refine(zd b i).same ?_;have o:¬((m.count:Int)<bf rec.length):=J
 simp[c,d.len rec.length V J];refine(DW g).same ?_;simp[fP,n,o];refine(E4 b).same ?_;simp[e];refine(M6 b l k j).same ?_;simp[f]
def Qk (hf:dV Z)(h:gR Z r a m)(hd:dz Z a F D)(w:r∉F)(yA:D.dead=φ)(hv:Sl Z F v 1 (al rec))(hl:rec.length<=1000000)
 (h0:0<m.count) (h1:m.first+m.count<=65536) (h2:m.base<=4611686018427387904) (h3:m.last<=1000000000) (hc:bf rec.length<=m.count) (ht:¬m.last<m.top) (hr:¬m.room<bf rec.length) (hw:D.waits.length+65536<100000000):
 Rq0 186 [.ptr r 0,v] Z λx Z'=>∃j,D.writes ((List.range (bf rec.length)).map (m.Bc rec))=j/\x=I (if j.1=0 then 0 else 20)/\Kp (r::F) Z Z'/\(∃F',dz Z' a F' j.2/\∀b∈F',b∈F\/Z.nx<=b)/\
     gR Z' r a (if j.1=0 then {m with last:=m.last+bf rec.length,top:=m.last+bf rec.length}else m):=by
 have H:=h;obtain⟨g1,g2⟩:=h;refine bE ?_;rw[agE];refine(zd H hd).same ?_;have hlen:=hv.len rec.length V J;have e1:¬((m.count:Int)<bf rec.length):=J
 have e2:¬m.count<bf rec.length:=J
 have e3:IntKind.i64.wrap (4611686018427387904-(bf rec.length:Int))=4611686018427387904-(bf rec.length:Int):=bt J;have e4:¬(4611686018427387904-(bf rec.length:Int)<m.last):=J
 simp only[yA,ii,au,dJ,Al,ll,hlen];refine(DW J).same ?_;simp only[fP,bk,vr,g2,kc,io,au,cQ,e1,FS,ll,ii];refine(E4 H).same ?_;simp only[ht,FS,ag,pi,ii];refine(M6 H J h2 J).same ?_;simp only[g2,lW,kc,io,au,cQ,hr,FS,ll,ii,dY,e3,e4];show cV ..;simp only[ke];generalize hN:bf rec.length=N at*
 refine bD (λfu vs s=>∃i G M,fu+i=N/\vs=[.ptr r 0,v,I N,I N,I i]/\Kp F Z s/\dz s a M G/\(∀b∈M,b∈F\/Z.nx<=b)/\G.dead=φ/\G.waits.length=D.waits.length+i/\D.writes ((List.range N).map (m.Bc rec))=G.writes (((List.range N).drop i).map (m.Bc rec))) ?_ (n:=N)
  ⟨0,D,F,rfl,rfl,Δ _ _,hd,lk,yA,rfl,V⟩
 rintro fu vs s k ⟨i,G,M,hi,rfl,y,ZK,T,ai,ax,o⟩ next;have hn:=y.nx;have L:=H.keep y w;simp only[ke]
 by_cases hlt:i<N
 .have a1:R .lss ν false (I i) (I N) s=.ok ι s:=by rw[au,cU,jp J]
  simp only[a1,xl,ix,aZ];have k7:Kp [] s (O.new s ϐc):=(Δ _ s).new _;have g7:(O.new s ϐc).m.g s.nx=Φ ϐc:=ay _ _;have ac:(O.new s ϐc).nx=s.nx+1:=rfl;generalize O.new s ϐc=c at*;have ab:=L.keep k7 V;have av:=ab.2;have Q:=(hv.mono y).mono (k7.mono V);have ap:=Q.len rec.length V J;have b1:R .add ν true (I m.last) ϖ c=.ok (ζ (m.last+1)) c:=AU
  have b2:R .add ν false (ζ (m.last+1)) (I i) c=.ok (ζ (m.last+1+i)) c:=AU
  have b3:R .sub ν true (I N) ϖ c=.ok (ζ (N-1)) c:=CS
  have b4:R .eql ψ false (I i) (ζ (N-1)) c=.ok (.bool (decide (i+1=N))) c:=by
   rw[au,cn];congr 2;simp only[CI];omega
  have b5:R .mul ν true (I i) (I 501) c=.ok (ζ (i*501)) c:=MR
  have b6:R .add ν true (ζ (i*501)) (I 501) c=.ok (ζ (i*501+501)) c:=AU
  have b7:Bk false (ζ (i*501+501)) (I rec.length) c=.ok (ζ (min (i*501+501) rec.length)) c:=by
   have e:Bk false (ζ (i*501+501)) (I rec.length) c=.ok (I (if (rec.length:Int)<((i*501+501:Nat):Int)then (rec.length:Int)else ((i*501+501:Nat):Int))) c:=rfl;rw[e];congr 2;split<;>omega
  have Hd:=Ic (len:=rec.length) (i:=i) (by rw[hN];exact hlt);obtain⟨f,p1,p2⟩:=Q.both (n:=rec.length) J V (l:=i*501) (h:=min (i*501+501) rec.length) J J c
  have Xz:List.take ((min (i*501+501) rec.length-i*501)*1) (List.drop (i*501*1) (al rec))=al (cO rec m.last N i).data:=by
   unfold cO al;rw[Fi,Fi,<-JO,<-L3]
   congr 1
   by_cases hm:i*501+501<=rec.length
   .rw[us hm];congr 1;omega
   .rw[Nat.min_eq_right J,lw V,lw xI]
  rw[Xz]at p2;obtain⟨VA,aa,W⟩:=p2.bM
  have ql:aR ϐ0 [(0,1,ζ (m.last+1+i)),(1,1,.bool (decide (i+1=N))),(2,1,f)] c=.ok (.agg [ζ (m.last+1+i),.bool (decide (i+1=N)),f]) c:=by
   rw[eK];simp[cW,bC,VA,W]
  have nv:bC ϐ0 0 [ζ (m.last+1+i),.bool (decide (i+1=N)),f]=[ζ (m.last+1+i),.bool (decide (i+1=N)),f]:=db _ _ rfl;simp only[rr,av,kc,io,b1,b2,b3,b4,b5,b6,ap,b7,p1,ql,jZ g7,GE,g7,aN,nv];refine⟨⟨rfl,by simp[aa],V⟩,⟨gt,gt,gt⟩,gt,?_⟩;have k8:Kp [] s (O.set c s.nx (ϙ [ζ (m.last+1+i),.bool (decide (i+1=N)),f])):=k7.set _ (.inr (hI _)) J;have g8:(O.set c s.nx (ϙ [ζ (m.last+1+i),.bool (decide (i+1=N)),f])).m.g s.nx=Φ (ϙ [ζ (m.last+1+i),.bool (decide (i+1=N)),f]):=ao ..;have aw:Kp [s.nx] c (O.set c s.nx (ϙ [ζ (m.last+1+i),.bool (decide (i+1=N)),f])):=(Δ _ c).set _ (.inl V) J;have aC:(O.set c s.nx (ϙ [ζ (m.last+1+i),.bool (decide (i+1=N)),f])).nx=s.nx+1:=ac
  have p8:Sl (O.set c s.nx (ϙ [ζ (m.last+1+i),.bool (decide (i+1=N)),f])) [] f 1 (al (cO rec m.last N i).data):=by
   obtain⟨v3,p3,p4⟩:=((hv.mono y).fc (Y:=[]) V).both (n:=rec.length) J V (l:=i*501) (h:=min (i*501+501) rec.length) J J c;rw[p1]at p3;cases p3;rw[Xz]at p4;exact p4.mono k8
  generalize O.set c s.nx (ϙ [ζ (m.last+1+i),.bool (decide (i+1=N)),f])=s8 at*;rw[aG (n:=3) g8 rfl,af];have NK:(cO rec m.last N i).data.length<=501:=adG
  refine(DS (p:=cO rec m.last N i) p8 NK adG).mono ?_;rintro _ d ⟨rfl,k9⟩;have lP:=Piece.sL (cO rec m.last N i) NK;have C:(al (cO rec m.last N i).bX).length=512:=by simpa using lP
  have N0:(O.new d (ϡ (zr 512))).m.g d.nx=Φ (ϡ (zr 512)):=ay _ _;have Mc:bC (zr 512) 0 (al (cO rec m.last N i).bX)=al (cO rec m.last N i).bX:=db _ _ (by rw[C];exact List.length_replicate.symm);simp only[bW,GE,N0,aN,Mc];refine⟨⟨C,bK _,V⟩,?_⟩;have az:=k9.nx;have P:Kp [] s (O.set (O.new d (ϡ (zr 512))) d.nx (ϡ (al (cO rec m.last N i).bX))):=((k8.trans k9 V).new _).set _ (.inr J) V;have an:Kp [] d (O.set (O.new d (ϡ (zr 512))) d.nx (ϡ (al (cO rec m.last N i).bX))):=((Δ _ d).new _).set _ (.inr (hI _)) V;have PZ:(O.set (O.new d (ϡ (zr 512))) d.nx (ϡ (al (cO rec m.last N i).bX))).m.g d.nx=Φ (ϡ (al (cO rec m.last N i).bX)):=ao ..;have aD:(O.set (O.new d (ϡ (zr 512))) d.nx (ϡ (al (cO rec m.last N i).bX))).nx=d.nx+1:=rfl;generalize O.set (O.new d (ϡ (zr 512))) d.nx (ϡ (al (cO rec m.last N i).bX))=eo at*;have z:=L.keep P V;have Zl:=z.2;have ah:=(an.keep s.nx J V).trans ((k9.keep s.nx J V).trans g8);simp only[Zl,ah,lW,io];refine(Bg z h0 J (n:=m.last+1+i) J).same ?_;have G9:cD 512 1 (.ptr d.nx 0) ν ν eo=.ok (.slice d.nx 0 512 512 0) eo:=rfl;simp only[G9,rb,Zl,io];have aq:Sl eo M (.slice d.nx 0 512 512 0) 1 (al (cO rec m.last N i).bX):=.inr ⟨d.nx,0,512,512,0,rfl,by rw[C],⟨hI _,.inl rfl⟩,.inr ⟨λh=>by have:=ZK.lt _ h;omega,J,_,_,_,PZ,J,QN⟩⟩;refine(xH (ZK.keep P V) (P.fresh (y.fresh hf)) J aq lP).mono ?_;rintro _ dw ⟨rfl,rl,F',S,nM⟩;have aF:=rl.nx;have Mj:=(y.trans P V).trans rl T;have PW:=λb hb=>(nM b hb).elim (T b) λh=>.inr (by have:=P.nx;omega)
  have ak:r∉M:=λh=>(T r h).elim w λh2=>by have:=H.1;omega
  have aj:=z.keep rl ak
  have ar:(List.range N).drop i=i::(List.range N).drop (i+1):=by
   rw[vT OF];simp
  have IV:m.Bc rec i=(m.place (m.last+1+i),(cO rec m.last N i).bX):=by unfold RingM.Bc;rw[hN]
  rw[ar,pw,IV]at o;simp only[aX.writes]at o;refine⟨⟨⟨gt,gt⟩,gt,gt⟩,gt,?_⟩
  by_cases u:(G.write ((m.place (m.last+1+i):Nat):Int) (cO rec m.last N i).bX).1=0
  .rw[gq u]at o;obtain⟨z1,z2,z3⟩:=AS u;have a3:∀s,lb .add .i64 (i:Int) .i64 1 s=.ok (ζ (i+1)) s:=λs=>by rw[cE,bt J];rfl
   simp only[u,au,dJ,Al,ll,ii,a3];exact next (fu-1) _ _ J ⟨i+1,_,F',J,rfl,Mj,S,PW,by rw[z1];exact ai,by rw[z2];simp;omega,o⟩
  .rw[B u]at o;simp only[au,dJ,u,FS,ra,xl,ix];refine⟨_,o,by rw[B u],Mj.mono (λq hq=>.inl QU),⟨F',S,PW⟩,?_⟩;rw[B u];exact aj
 .have a1:R .lss ν false (I i) (I N) s=.ok Θ s:=by rw[au,cU,jo J]
  have ad:i=N:=J
  subst ad;have am:=L.2;simp only[a1,ll,ii];have Tl:(List.range i).drop i=[]:=ys V;rw[Tl]at o;have a2:R .add ν false (I m.last) (I i) s=.ok (ζ (m.last+i)) s:=AU
  have c1:bC [K.ptr a 0,I m.first,I m.count,I m.base,I m.last,I m.top] 4 [ζ (m.last+i)]=[K.ptr a 0,I m.first,I m.count,I m.base,ζ (m.last+i),I m.top]:=rfl;have c2:bC [K.ptr a 0,I m.first,I m.count,I m.base,ζ (m.last+i),I m.top] 5 [ζ (m.last+i)]=[K.ptr a 0,I m.first,I m.count,I m.base,ζ (m.last+i),ζ (m.last+i)]:=rfl;simp only[rr,am,kc,io,a2,sq,xz,jR,c1,ao,c2,set_set];refine⟨⟨rfl,rfl,V⟩,⟨rfl,rfl,V⟩,(0,G),o,rfl,(y.mono λq hq=>.inl QU).set _ (.inl V) L.1,⟨M,ZK.keep (X:=[r]) ((Δ _ s).set _ (.inl V) L.1) (λb hb=>by simp;exact λe=>(T r (e▸hb)).elim w λh2=>by have:=H.1;omega),T⟩,?_⟩;exact⟨L.1,ao ..⟩
end
end
