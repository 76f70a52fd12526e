import Derived.Test.YtomffjeofpafnaaGreatDoorRingA
namespace Lim
open Go
noncomputable section
set_option maxRecDepth 100000
section
variable {st st':St}
theorem rR {f:CV}{args:List CV}{Q Q':CV->St->Prop}(h:fD R f args st Q)(hq:∀v s,Q v s->Q' v s):fD R f args st Q':=by
 unfold fD at*
 split at h
 ·exact R.mono h hq
 ·exact h.elim
def lp (st:St)(G:List Nat):List CV->List (List UInt8)->Prop
 |[],[]=>True
 |v::vs,l::ls=>kM st G v 1 (ai l)/\lp st G vs ls
 |_,_=>False
theorem lp.keep {G X:List Nat}{vs:List CV}{L:List (List UInt8)}(h:lp st G vs L)(hk:Kp X st st')(hx:∀b∈G,b∉X):lp st' G vs L:=by
 induction vs generalizing L with
 |nil=>cases L with|nil=>trivial|cons l L=>exact h
 |cons v vs ih=>cases L with|nil=>exact h|cons l L=>exact⟨h.1.keep hk hx,ih h.2⟩
theorem lp.mono {G H:List Nat}{vs:List CV}{L:List (List UInt8)}(h:lp st G vs L)(hg:∀b∈G,b∈H):lp st H vs L:=by
 induction vs generalizing L with
 |nil=>cases L with|nil=>trivial|cons l L=>exact h
 |cons v vs ih=>cases L with|nil=>exact h|cons l L=>exact⟨h.1.mono hg,ih h.2⟩
theorem lp.snoc {G:List Nat}{vs:List CV}{L:List (List UInt8)}{v:CV}{l:List UInt8}(h:lp st G vs L)(hv:kM st G v 1 (ai l)):lp st G (vs++[v]) (L++[l]):=by
 induction vs generalizing L with
 |nil=>cases L with|nil=>exact⟨hv,trivial⟩|cons l L=>exact h.elim
 |cons v vs ih=>cases L with|nil=>exact h.elim|cons l L=>exact⟨h.1,ih h.2⟩
theorem lp.len {G:List Nat}{vs:List CV}{L:List (List UInt8)}(h:lp st G vs L):vs.length=L.length:=by
 induction vs generalizing L with
 |nil=>cases L with|nil=>rfl|cons l L=>exact h.elim
 |cons v vs ih=>cases L with|nil=>exact h.elim|cons l L=>simp[ih h.2]
theorem lp.one {G:List Nat}{vs:List CV}{L:List (List UInt8)}(h:lp st G vs L):aX vs=true:=by
 induction vs generalizing L with
 |nil=>rfl
 |cons v vs ih=>cases L with|nil=>exact h.elim|cons l L=>rw[tx,h.1.nil.bu.2.1,ih h.2];rfl
def mB (P:Nat->Piece)(count:Nat):Nat->Nat->List UInt8->List (List UInt8)->Nat->List (List UInt8)×Nat
 |0,_,_,out,last=>(out,last)
 |f+1,n,now,out,last=>if (P ((n+1)%count)).n=n+1 then
   (if (P ((n+1)%count)).last=true then mB P count f (n+1) [] (out++[now++(P ((n+1)%count)).data]) (n+1)else mB P count f (n+1) (now++(P ((n+1)%count)).data) out last)
  else (out,last)
def nO (st:St)(x:CV)(L:List (List UInt8))(Fo G:List Nat):Prop:=∃vs,Own st x 1 93 vs Fo/\lp st G vs L/\(∀b∈Fo,b<st.next)/\(∀b∈G,b<st.next)/\∀b∈Fo,b∉G
structure YL (mT:St)(r a c q:Nat)(F:List Nat)(D:aV)(P:Nat->Piece)(m:RingM)(f:CV)(fuel:Nat)(vs:List CV)(s:St)(n:Nat)(now:List UInt8)(out:List (List UInt8))(last:Nat)(xo xn:CV)(Fo Fn G:List Nat):Prop where
 vs:vs=[.ptr r 0,xo,xn,f]
 fu:n+fuel=m.base+m.count
 lo:m.base<=n
 kp:Kp [r] mT s
 ring:fF s r a {m with last:=last}
 DB:dt s a F D
 nx:oQ s f c q r n
 atw:nO s xo out Fo G
 own:Own s xn 1 5 (ai now) Fn
 ltn:∀b∈Fn,b<s.next
 ge:∀b,b∈Fo\/b∈Fn\/b∈G->mT.next<=b/\b≠c/\b≠q
 Vj:∀b∈Fn,b∉Fo/\b∉G
 szn:now.length<=501*n
 szo:out.length<=n
 tgt:mB P m.count fuel n now out last=mB P m.count m.count m.base [] [] m.last
theorem Hs {r a:Nat}{m:RingM}{F:List Nat}{D:aV}{P:Nat->Piece}(hf:cT st)(h:fF st r a m)(hd:dt st a F D)(hr:r∉F)(tf:D.dead=false)(hp:rZ D m P)(hb:m.base<=1000000000):
 R 115 [.ptr r 0] st fun x st'=>∃xo Fo G,x= .tuple [xo,I 0]/\Kp [r] st st'/\fF st' r a {m with last:=(mB P m.count m.count m.base [] [] m.last).2}/\nO st' xo (mB P m.count m.count m.base [] [] m.last).1 Fo G/\∀b,b∈Fo\/b∈G->st.next<=b:=by
 refine bO ?_;rw[ahX];show R 154 [.ptr r 0] st _;refine(Hy h).mono ?_;rintro f s1 ⟨k1,c,q,AP,hc,hq⟩;simp only[aK,aL];refine bM (fun fuel vs s=>∃n now out last xo xn Fo Fn G,YL st r a c q F D P m f fuel vs s n now out last xo xn Fo Fn G) ?_ (n:=m.count) ⟨m.base,[],[],m.last, .ae, .ae,[],[],[],rfl,rfl,aAU _,k1.mono (by simp),h.keep k1 (by simp),hd.keep k1 (by simp),AP,⟨[], .inl ⟨rfl,rfl,rfl⟩,trivial,by simp,by simp,by simp⟩, .inl ⟨rfl,rfl,rfl⟩,by simp,by simp,by simp,by simp,by simp,rfl⟩;rintro fuel vs s k ⟨n,now,out,last,xo,xn,Fo,Fn,G,I⟩ next;obtain⟨rfl,i1,i2,i3,i4,i5,i6,i7,i8,i9,BB,i11,i12,i13,Ox⟩:=I;have X6:∀s:St,True:=fun _=>trivial;have nY:=i3.next;have Su:r<st.next:=h.1;have hp':rZ D {m with last:=last} P:=⟨hp.pos,hp.fits,hp.jF,hp.base,hp.cur⟩;simp only[aK,aL];obtain⟨vsr,j1,j2,j3,j4,j5⟩:=i7;have XE:∀(s':St),Kp [c] s s'->Kp [r] st s':=fun s' hk=>i3.trans hk (by simp;right;exact hc)
 by_cases Dt:fuel=0
 ·subst Dt;refine rR (Ob i4 hp' i6 (by simpa using i1)) ?_;rintro _ s3 ⟨rfl,k3⟩;have g4:(St.new s3 (.cells [.int .i64 0, .bool false, .ae] 200 false)).mem.get s3.next=some (.cells [.int .i64 0, .bool false, .ae] 200 false):=aq _ _;have kk:∀blk,Kp [] s (St.set (St.new s3 (.cells [.int .i64 0, .bool false, .ae] 200 false)) s3.next blk):=fun blk=>(k3.new _).set _ (.inr k3.next) (by simp);simp only[aD,aJ,af,cM,aT,aH,g4,aS,aU,av,fj,aBV,aBm,aG,aAR,aBf,aBk,bh,du,aF,ag,aBr];refine⟨⟨rfl,rfl,by decide⟩,xo,Fo,G,rfl,i3.trans (kk _) (by simp), ?_, ?_,fun b hb=>(BB b (by rcases hb with h|h<;>simp[h])).1⟩
  ·rw[<-Ox];exact i4.keep (kk _) (by simp)
  ·rw[<-Ox];exact⟨vsr,j1.keep (kk _) fun b hb=>⟨j3 b hb,by simp⟩,j2.keep (kk _) (by simp),fun b hb=>aBs (j3 b hb) (kk (.map [] 0)).next,fun b hb=>aBs (j4 b hb) (kk (.map [] 0)).next,j5⟩
 ·obtain⟨fu,rfl⟩:∃fu,fuel=fu+1:=⟨fuel-1,by omega⟩;have hrc:r≠c:=by omega
  have hrq:r≠q:=by omega
  have hcF:c∉F:=fun h=>by have:=hd.lt c h;omega
  refine rR (R8 (i3.fresh hf) i4 i5 hr tf hp' i6 (by simp;omega) (by simpa using i2) (by simp;omega) hrc hrq hcF) ?_;rintro _ s3 ⟨_,rfl,⟨v,Fv,rfl,k3,ho,Lh⟩,akR⟩;have e0:RingM.is {m with last:=last} P (n+1)↔(P ((n+1)%m.count)).n=n+1:=Iff.rfl;rw[show decide (RingM.is {m with last:=last} P (n+1))=decide ((P ((n+1)%m.count)).n=n+1)from decide_eq_decide.2 e0];simp only[mB]at Ox;generalize hP:P ((n+1)%m.count)=p at*;have g4:(St.new s3 (.cells [.int .i64 0, .bool false, .ae] 200 false)).mem.get s3.next=some (.cells [.int .i64 0, .bool false, .ae] 200 false):=aq _ _;have jR:bt [.int .i64 0, .bool false, .ae] 0 [I p.n, .bool p.last,v]=[I p.n, .bool p.last,v]:=dV _ _ rfl;obtain⟨o1,o2⟩:=ho.cq;have k5:Kp [c] s (St.set (St.new s3 (.cells [.int .i64 0, .bool false, .ae] 200 false)) s3.next (.cells [I p.n, .bool p.last,v] 200 false)):=(k3.new _).set _ (.inr k3.next) (by simp);have L6:Kp [] s3 (St.set (St.new s3 (.cells [.int .i64 0, .bool false, .ae] 200 false)) s3.next (.cells [I p.n, .bool p.last,v] 200 false)):=((Kp.refl _ s3).new _).set _ (.inr (aAU _)) (by simp);have g5:(St.set (St.new s3 (.cells [.int .i64 0, .bool false, .ae] 200 false)) s3.next (.cells [I p.n, .bool p.last,v] 200 false)).mem.get s3.next=some (.cells [I p.n, .bool p.last,v] 200 false):=ao _ _ _;have Zv:(St.set (St.new s3 (.cells [.int .i64 0, .bool false, .ae] 200 false)) s3.next (.cells [I p.n, .bool p.last,v] 200 false)).next=s3.next+1:=rfl;simp only[aD,aJ,af,cM,aT,aH,g4,aS,aU,jR,av,fj,aBV,aBm,aG,aAR,aBf,aBk,bh,du,aF,ag,aBr];refine⟨⟨rfl,by simp[o1],by decide⟩, ?_⟩;generalize St.set (St.new s3 (.cells [.int .i64 0, .bool false, .ae] 200 false)) s3.next (.cells [I p.n, .bool p.last,v] 200 false)=s5 at*;have hn3:=k3.next;have nc:∀b,b∈Fo\/b∈Fn\/b∈G->b∉[c]:=fun b hb=>by simpa using (BB b hb).2.1
  have hr5:=i4.keep k5 (by simpa using hrc);have hd5:=i5.keep k5 (fun b hb=>by simp;exact fun e=>hcF (e▸hb));have hx5:oQ s5 f c q r (n+1):=akR.keep L6 (by simp) (by simp);have jo5:=j1.keep k5 fun b hb=>⟨j3 b hb,nc b (.inl hb)⟩;have js5:=j2.keep k5 fun b hb=>nc b (.inr (.inr hb));have ow5:=i8.keep k5 fun b hb=>⟨i9 b hb,nc b (.inr (.inl hb))⟩;have ov5:=ho.keep L6 fun b hb=>⟨(Lh b hb).2,by simp⟩
  by_cases ZA:p.n=n+1
  ·rw[aBc ZA,aBm,aAZ (by decide)];rw[aBb ZA]at Ox
   have aqI:p.data.length<=501:=by
    obtain⟨_,u⟩:=hp.cur _ (Nat.mod_lt (n+1) hp.pos);rw[hP]at u;exact u.2.1
   have hvF:∀b∈Fv,s.next<=b/\b<s5.next/\b≠s3.next:=fun b hb=>by have:=Lh b hb;omega
   have hsv:Sl s5 [] v 1 (ai p.data):=ov5.sl fun b hb=>⟨by simp,(hvF b hb).2.1⟩;obtain⟨nn,QL,AL⟩:=hsv.src [(.int .u8 0)];simp at QL;subst QL;have q1:=hp.fits;have q2:=hp.jF;obtain⟨LX,s6,ZX,a1,a2,a3,a4⟩:=ow5.append (n:=p.data.length) (bytes:=1) (T:=ai p.data) (by omega) (by simp) (bE _) (fun b hb=>by have:=i9 b hb;omega) (by simp;omega);have hn6:=a3.next;have ns3:s3.next∉Fn:=fun h=>by have:=i9 _ h;omega
   have g6:=(a3.keep s3.next (by omega) ns3).trans g5;simp only[fl,ah,af,az,g5,ar,aAT,aAS,aAQ,au,AL,a1,aT,g6,ag];have FM:∀b∈ZX,(b∈Fn\/s5.next<=b)/\b<s6.next:=fun b hb=>⟨(a4 b hb).1.imp id fun h=>by omega,(a4 b hb).2⟩;have nF:∀b,b∈Fo\/b∈G->b∉Fn:=fun b hb h=>(hb.elim (i11 b h).1 (i11 b h).2);have lF:∀b,b∈Fo\/b∈G->b<s5.next:=fun b hb=>by rcases hb with h|h;have:=j3 b h;omega;have:=j4 b h;omega
   have nr:r∉Fn:=fun h=>by have:=(BB r (.inr (.inl h))).1;omega
   have nc':c∉Fn:=fun h=>(BB c (.inr (.inl h))).2.1 rfl;have nq':q∉Fn:=fun h=>(BB q (.inr (.inl h))).2.2 rfl;have hr6:=hr5.keep a3 nr;have zt:=hd5.keep a3 (fun b hb h=>by have:=(BB b (.inr (.inl h))).1;have:=hd.lt b hb;omega);have hx6:=hx5.keep a3 nc' nq';have jo6:=jo5.keep a3 fun b hb=>⟨lF b (.inl hb),nF b (.inl hb)⟩;have js6:=js5.keep a3 fun b hb=>nF b (.inr hb);have Dp:Kp [r] st s6:=(XE s5 k5).trans a3 fun b hb=> .inr (BB b (.inr (.inl hb))).1
   have XG:∀b,b∈Fo\/b∈ZX\/b∈G->st.next<=b/\b≠c/\b≠q:=fun b hb=>by
    rcases hb with hb|hb|hb
    ·exact BB b (.inl hb)
    ·rcases(FM b hb).1 with h|h
     ·exact BB b (.inr (.inl h))
     ·have:=i6.2.1;have:=i6.2.2.1;omega
    ·exact BB b (.inr (.inr hb))
   have O5:∀b∈ZX,b∉Fo/\b∉G:=fun b hb=>by
    rcases(FM b hb).1 with h|h
    ·exact i11 b h
    ·exact⟨fun h2=>by have:=lF b (.inl h2);omega,fun h2=>by have:=lF b (.inr h2);omega⟩
   by_cases hl:p.last=true
   ·rw[aBb hl];rw[aBb hl]at Ox;have SQ:=Dp.fresh hf;obtain⟨b1,b2⟩:=a2.cq;have b3:LX.isAny=false:=(a2.sl (X:=[]) fun b hb=>⟨by simp,(FM b hb).2⟩).bu.1
    have zs:fY [(0,1,LX)] (cO 1 [CV.ae])=some [LX]:=by
     rw[cI,aBb ⟨⟨by rw[b2];rfl,b3⟩,by rw[b2];exact aAU _⟩,kJ,b2];rfl
    have iq:(St.skip s6).mem.get s6.next=none:=SQ _ (aAU _);rw[bG,jb iq zs,aT];have k7:Kp [] s6 (St.set (St.skip s6) s6.next (.cells [LX] 93 false)):=((Kp.refl _ s6).skip).set _ (.inr (aAU _)) (by simp);have g77:(St.set (St.skip s6) s6.next (.cells [LX] 93 false)).mem.get s6.next=some (.cells [LX] 93 false):=ao _ _ _;have hn7:(St.set (St.skip s6) s6.next (.cells [LX] 93 false)).next=s6.next+1:=rfl;generalize St.set (St.skip s6) s6.next (.cells [LX] 93 false)=s7 at*;have jo7:=jo6.keep k7 fun b hb=>⟨by have:=lF b (.inl hb);omega,by simp⟩;have js7:=js6.keep k7 (by simp)
    have sn7:kM s7 ZX LX 1 (ai (now++p.data)):=by
     have:=a2.keep k7 fun b hb=>⟨(FM b hb).2,by simp⟩;rw[bH];exact this.aas fun b hb=>by have:=(FM b hb).2;omega
    have Sm:=js7.len;rw[EI (k:=1) (n:=1) g77 (by omega) rfl];obtain⟨xo',s8,Fo',c1,c2,c3,c4⟩:=jo7.append (n:=1) (bytes:=24) (T:=[LX]) (by omega) rfl (by rw[tx,b1];rfl) (fun b hb=>by have:=lF b (.inl hb);omega) (by simp;omega);have hn8:=c3.next;have ajl:s3.next∉Fo:=fun h=>by have:=j3 _ h;omega
    have nro:r∉Fo:=fun h=>by have:=(BB r (.inl h)).1;omega
    have nco:c∉Fo:=fun h=>(BB c (.inl h)).2.1 rfl;have nqo:q∉Fo:=fun h=>(BB q (.inl h)).2.2 rfl;have g7:=(k7.keep s3.next (by omega) (by simp)).trans g6;have g8:=(c3.keep s3.next (by omega) ajl).trans g7;have hr8:=(hr6.keep k7 (by simp)).keep c3 nro;have akt:=hr8.2;have GQ:=(zt.keep k7 (by simp)).keep c3 (fun b hb h=>by have:=(BB b (.inl h)).1;have:=hd.lt b hb;omega);have hx8:=(hx6.keep k7 (by simp) (by simp)).keep c3 nco nqo;have Zz:Kp [r] st s8:=(Dp.trans k7 (by simp)).trans c3 fun b hb=> .inr (BB b (.inl hb)).1;have js8:=js7.keep c3 fun b hb h=>j5 b h hb;have sn8:=sn7.keep c3 fun b hb h=>(O5 b hb).1 h;have Po:∀b∈Fo',(b∈Fo\/s7.next<=b)/\b<s8.next:=fun b hb=>⟨(c4 b hb).1.imp id fun h=>by omega,(c4 b hb).2⟩;have Xi:bt [CV.ptr a 0,I m.first,I m.count,I m.base,I last,I m.top] 4 [I p.n]=[CV.ptr a 0,I m.first,I m.count,I m.base,I p.n,I m.top]:=rfl;simp only[c1,aT,ah,af,az,g7,g8,ar,aAT,aAQ,au,bA,aH,akt,aS,iF,Xi];refine⟨⟨rfl,rfl,by simp⟩,⟨⟨trivial,trivial,trivial⟩,trivial⟩,⟨trivial,trivial⟩, ?_⟩;have abW:=hr8.1;have Dc:∀b,b≠r->(St.set s8 r (.cells [.ptr a 0,I m.first,I m.count,I m.base,I p.n,I m.top] 198 false)).mem.get b=s8.mem.get b:=fun b hb=>ak _ _ _ _ hb;have k9:Kp [r] s8 (St.set s8 r (.cells [.ptr a 0,I m.first,I m.count,I m.base,I p.n,I m.top] 198 false)):=(Kp.refl _ s8).set _ (.inl (by simp)) abW;have ner:∀b,st.next<=b->b∉[r]:=fun b hb=>by simp;omega
    refine next fu _ _ (by omega) ⟨n+1,[],out++[now++p.data],n+1,xo', .ae,Fo',[],ZX++G,rfl,by omega,by omega,Zz.trans k9 (by simp),⟨abW,by rw[ao,ZA]⟩,GQ.keep k9 (fun b hb=>by simp;exact fun e=>hr (e▸hb)),hx8.keep k9 (by simpa using aBU hrc) (by simpa using aBU hrq),⟨vsr++[LX],c2.keep k9 fun b hb=>⟨(Po b hb).2,ner b ?_⟩, ?_,fun b hb=>(Po b hb).2, ?_, ?_⟩, .inl ⟨rfl,rfl,rfl⟩,by simp, ?_,by simp,by simp,by simp;omega,Ox⟩
    ·rcases(Po b hb).1 with h|h
     ·exact(BB b (.inl h)).1
     ·have:=Dp.next;omega
    ·refine lp.snoc ((js8.keep k9 fun b hb=>ner b (BB b (.inr (.inr hb))).1).mono fun b hb=>by simp[hb]) ((sn8.keep k9 fun b hb=>ner b ?_).mono fun b hb=>by simp[hb]);exact(XG b (.inr (.inl hb))).1
    ·intro b hb;show b<s8.next;rcases aBe.1 hb with h|h
     ·have:=(FM b h).2;omega
     ·have:=lF b (.inr h);omega
    ·intro b hb h2;rcases(Po b hb).1 with h|h
     ·rcases aBe.1 h2 with h3|h3
      ·exact(O5 b h3).1 h
      ·exact j5 b h h3
     ·rcases aBe.1 h2 with h3|h3
      ·have:=(FM b h3).2;omega
      ·have:=lF b (.inr h3);omega
    ·intro b hb;rcases hb with hb|hb|hb
     ·rcases(Po b hb).1 with h|h
      ·exact BB b (.inl h)
      ·have:=Dp.next;have:=i6.2.1;have:=i6.2.2.1;omega
     ·simp at hb
     ·rcases aBe.1 hb with h|h
      ·exact XG b (.inr (.inl h))
      ·exact BB b (.inr (.inr h))
   ·rw[aAZ hl];rw[aAZ hl]at Ox;refine next fu _ _ (by omega) ⟨n+1,now++p.data,out,last,xo,LX,Fo,ZX,G,rfl,by omega,by omega,Dp,hr6,zt,hx6,⟨vsr,jo6,js6,fun b hb=>by have:=j3 b hb;omega,fun b hb=>by have:=j4 b hb;omega,j5⟩,by rw[bH];exact a2,fun b hb=>(FM b hb).2,XG,O5,by simp;omega,by omega,Ox⟩
  ·rw[aAW ZA,aBk,aBb rfl];rw[aAZ ZA]at Ox;refine⟨xo,Fo,G,rfl,XE s5 k5, ?_, ?_,fun b hb=>(BB b (by rcases hb with h|h<;>simp[h])).1⟩
   ·rw[<-Ox];exact hr5
   ·rw[<-Ox];exact⟨vsr,jo5,js5,fun b hb=>by have:=j3 b hb;omega,fun b hb=>by have:=j4 b hb;omega,j5⟩
end
section
variable {st st':St}
def lU (P:Nat->Piece)(count base:Nat):Nat->Nat
 |0=>base
 |i+1=>if (P i).n≠0/\(P i).n%count=i then max (lU P count base i) (P i).n else lU P count base i
theorem IL (P:Nat->Piece)(count base B:Nat)(hb:base<=B)(h:∀j,j<count->(P j).n<=B):∀i,i<=count->lU P count base i<=B:=by
 intro i
 induction i with
 |zero=>intro _;exact hb
 |succ i ih=>
  intro hi;simp only[lU];have:=ih (by omega);have:=h i (by omega)
  split<;>omega
def RingM.opened (first count base:Nat)(P:Nat->Piece):RingM:=⟨first,count,base,(mB P count count base [] [] base).2,lU P count base count⟩
theorem yD {a:Nat}{F:List Nat}{D:aV}{P:Nat->Piece}{first count base:Nat}(hf:cT st)(hd:dt st a F D)(tf:D.dead=false)(hp:rZ D ⟨first,count,base,base,base⟩ P)(hb:base<=1000000000):
 R 69 [.ptr a 0,I first,I count,I base] st fun x st'=>∃r xo Fo G,x= .tuple [.ptr r 0,xo,I 0]/\Kp [] st st'/\fF st' r a (RingM.opened first count base P)/\nO st' xo (mB P count count base [] [] base).1 Fo G/\(∀b,b∈Fo\/b∈G->st.next<=b)/\st.next<=r:=by
 refine bO ?_;rw[w69];have q0:0<count:=hp.pos;have q1:first+count<=D.ay.length:=hp.fits
 have q2:=hp.jF;simp only[cX,af,ag,aAR,aBf];refine(wo hd).same ?_;have e1:¬(first:Int)<0:=by omega
 have e2:¬(count:Int)<1:=by omega
 have e3:¬(D.ay.length:Int)<count:=by omega
 have e4:IntKind.i64.wrap ((D.ay.length:Int)-count)=(D.ay.length:Int)-count:=bD (by omega);have e5:¬((D.ay.length:Int)-count<first):=by omega
 have e6:¬(base:Int)<0:=by omega
 have e7:¬(4611686018427387904:Int)<base:=by omega
 have mP:bJ [.bz, .int .i64 0, .int .i64 0, .int .i64 0, .int .i64 0, .int .i64 0] [(0,1, .ptr a 0),(1,1,I first),(2,1,I count),(3,1,I base),(4,1,I base),(5,1,I base)] st= .ok (.agg [.ptr a 0,I first,I count,I base,I base,I base]) st:=by
  rw[dO];simp[cI,bt]
 simp only[av,de,dj,dJ,af,e1,e2,e3,e4,e5,e6,e7,aCy,aG,aAR,aBf,aBk,bh,aF,ag,mP,cr,aU];refine⟨rfl, ?_⟩;show dn _ _ _;simp only[aK,aL];refine bM (fun fu vs s=>∃i,fu+i=count/\vs=[I first, .ptr st.next 0,I count,I i]/\Kp [] st s/\fF s st.next a ⟨first,count,base,base,lU P count base i⟩) ?_ (n:=count) ⟨0,rfl,rfl,(Kp.refl _ st).new _,by simp,aq _ _⟩;rintro fu vs s k ⟨i,hi,rfl,hk,hr⟩ next;have hn:=hk.next;have DR:=hd.keep hk (by simp);have Zo:st.next∉F:=fun h=>by have:=hd.lt _ h;omega
 have hle:=IL P count base 4611686018427387904 (by omega) (fun j hj=>(hp.cur j hj).2.1);simp only[aK,aL]
 by_cases hc:i<count
 ·have mW:(i:Int)<count:=by omega
  have a1:aj .lss none false (I i) (I count) s= .ok (.bool true) s:=by rw[av,de,aBc mW]
  have a2:aj .add none false (I first) (I i) s= .ok (I ((first+i:Nat):Int)) s:=by rw[av,cN,bD (by omega)];congr 2
  simp only[a1,a2,af,ag,aBr];obtain⟨u1,u2⟩:=hp.cur i hc;refine(Es (hk.fresh hf) hr DR Zo tf q0 (by simp;omega) (at_:=first+i) (by omega) u2 u1).mono ?_;rintro _ s5 ⟨_,rfl,v,rfl,Fv,k5,ho,Lh⟩;have Zv:=k5.next;obtain⟨o1,o2⟩:=ho.cq;have HX:(RingM.place ⟨first,count,base,base,lU P count base i⟩ (P i).n=first+i)↔(P i).n%count=i:=by unfold RingM.place;simp
  have g4:(St.new s5 (.cells [.int .i64 0, .bool false, .ae] 200 false)).mem.get s5.next=some (.cells [.int .i64 0, .bool false, .ae] 200 false):=aq _ _;have jR:bt [.int .i64 0, .bool false, .ae] 0 [I (P i).n, .bool (P i).last,v]=[I (P i).n, .bool (P i).last,v]:=dV _ _ rfl;have k7:Kp [] s (St.set (St.new s5 (.cells [.int .i64 0, .bool false, .ae] 200 false)) s5.next (.cells [I (P i).n, .bool (P i).last,v] 200 false)):=(k5.new _).set _ (.inr Zv) (by simp);have g7:(St.set (St.new s5 (.cells [.int .i64 0, .bool false, .ae] 200 false)) s5.next (.cells [I (P i).n, .bool (P i).last,v] 200 false)).mem.get s5.next=some (.cells [I (P i).n, .bool (P i).last,v] 200 false):=ao _ _ _;have hn7:(St.set (St.new s5 (.cells [.int .i64 0, .bool false, .ae] 200 false)) s5.next (.cells [I (P i).n, .bool (P i).last,v] 200 false)).next=s5.next+1:=rfl;simp only[aD,aJ,af,cM,aT,aH,g4,aS,aU,jR,av,fj,aBV,aBm,aAR,aBf,ag];refine⟨⟨rfl,by simp[o1],by decide⟩, ?_⟩;generalize St.set (St.new s5 (.cells [.int .i64 0, .bool false, .ae] 200 false)) s5.next (.cells [I (P i).n, .bool (P i).last,v] 200 false)=s7 at*;have Zp:=hr.keep k7 (by simp);have Xe:=Zp.2;have a3:∀s,jr .add .i64 (i:Int) .i64 1 s= .ok (I ((i+1:Nat):Int)) s:=fun s=>by rw[cN,bD (by omega)];rfl
  have amh:decide ((P i).n≠0/\RingM.place ⟨first,count,base,base,lU P count base i⟩ (P i).n=first+i)=decide ((P i).n≠0/\(P i).n%count=i):=decide_eq_decide.2 (and_congr_right fun _=>HX);rw[amh]
  by_cases hq:(P i).n≠0/\(P i).n%count=i
  ·rw[aBc hq,aBb rfl]
   have SC:Bm true (I (lU P count base i)) (I (P i).n) s7= .ok (I ((lU P count base (i+1):Nat):Int)) s7:=by
    have e:Bm true (I (lU P count base i)) (I (P i).n) s7= .ok (I (if (lU P count base i:Int)<(P i).n then (P i).n else lU P count base i)) s7:=rfl;rw[e];simp only[lU];rw[aBb hq]
    congr 2
    split<;>omega
   have Xi:bt [CV.ptr a 0,I first,I count,I base,I base,I (lU P count base i)] 5 [I ((lU P count base (i+1):Nat):Int)]=[CV.ptr a 0,I first,I count,I base,I base,I ((lU P count base (i+1):Nat):Int)]:=rfl;simp only[bG,bA,ah,af,az,Xe,g7,ar,aAT,aAS,aAQ,au,SC,aH,aS,iF,Xi,a3];refine⟨⟨rfl,rfl,by simp⟩,⟨trivial,trivial,trivial⟩,trivial, ?_⟩;exact next (fu-1) _ _ (by omega) ⟨i+1,by omega,rfl,(hk.trans k7 (by simp)).set _ (.inr (aAU _)) Zp.1,Zp.1,ao _ _ _⟩
  ·rw[aAW hq,aAZ (by decide)];simp only[a3,af];refine next (fu-1) _ _ (by omega) ⟨i+1,by omega,rfl,hk.trans k7 (by simp), ?_⟩;have e:lU P count base (i+1)=lU P count base i:=by simp only[lU];rw[aAZ hq]
   rw[e];exact Zp
 ·have mW:¬(i:Int)<count:=by omega
  have hic:i=count:=by omega
  have a1:aj .lss none false (I i) (I count) s= .ok (.bool false) s:=by rw[av,de,aAW mW]
  simp only[a1,af,ag,aAR,aBf];rw[hic]at hr;refine(Hs (hk.fresh hf) hr DR Zo tf ⟨hp.pos,hp.fits,hp.jF,hp.base,hp.cur⟩ hb).mono ?_;rintro _ s9 ⟨xo,Fo,G,rfl,k9,r9,aiE,ge9⟩;simp only[aD,aJ,af,av,fj,aBV,aBm,aAR,aBf,ag];exact⟨st.next,xo,Fo,G,rfl,hk.trans k9 (by simp),r9,aiE,fun b hb=>aCq hn (ge9 b hb),aAU _⟩
end
section
variable {st st':St}
def aV.writes (D:aV):List (Nat×jk)->Int×aV
 |[]=>(0,D)
 |w::r=>if (D.write w.1 w.2).1=0 then (D.write w.1 w.2).2.writes r else D.write w.1 w.2
def cW (rec:List UInt8)(last n i:Nat):Piece:=⟨last+1+i,decide (i+1=n),(rec.drop (i*501)).take 501⟩
def RingM.nW (m:RingM)(rec:List UInt8)(i:Nat):Nat×jk:=(m.place (m.last+1+i),(cW rec m.last (bp rec.length) i).bX)
theorem yi {D:aV}{i:Int}{s:jk}(h:(D.write i s).1=0):(D.write i s).2.dead=D.dead/\(D.write i s).2.waits=D.waits++[(i.toNat,s)]/\(D.write i s).2.ay=D.ay:=by
 unfold aV.write at*
 by_cases h1:D.dead=true
 ·rw[aBb h1]at h;cases h
 ·rw[aAZ h1]at h⊢
  by_cases h2:i<0\/(D.ay.length:Int)<=i\/s.length≠512
  ·rw[aBb h2]at h;cases h
  ·rw[aAZ h2]at h⊢
   by_cases h3:D.out
   ·rw[aBb h3]at h;cases h
   ·rw[aAZ h3];exact⟨rfl,rfl,rfl⟩
theorem EC {len i:Nat}(h:i<bp len):i*501<=len:=by
 unfold bp at h
 split at h
 ·omega
 ·omega
theorem Gq {r a:Nat}{m:RingM}{F X:List Nat}{D:aV}{v:CV}{rec:List UInt8}(h:fF st r a m)(hd:dt st a F D)(tf:D.dead=false)(hv:Sl st X v 1 (ai rec))(hl:rec.length<=1000000000)
 (h1:m.count<=1000000) (h2:m.base<=4611686018427387904) (h3:m.last<=4611686018427387904) (hc:bp rec.length<=m.count) (ht:¬m.last<m.top) (hr:m.room<bp rec.length):R 131 [.ptr r 0,v] st fun x st'=>x=I 3/\st'=st:=by
 have h':=h;obtain⟨g1,g2⟩:=h;refine bO ?_;rw[aac];refine(wb h' hd).same ?_;have e1:¬((m.count:Int)<bp rec.length):=by omega
 simp[tf,hv.len rec.length (by simp) (by omega)];refine(Bi hl).same ?_;simp[fH,g2,e1,hc];have e2:¬m.count<bp rec.length:=by omega
 refine(Ci h').same ?_;simp[ht];refine(IX h' h1 h2 h3).same ?_;simp[hr]
theorem LO {r a:Nat}{m:RingM}{F:List Nat}{D:aV}{v:CV}{rec:List UInt8}(hf:cT st)(h:fF st r a m)(hd:dt st a F D)(Zo:r∉F)(tf:D.dead=false)(hv:Sl st F v 1 (ai rec))(hl:rec.length<=1000000)
 (h0:0<m.count) (h1:m.first+m.count<=65536) (h2:m.base<=4611686018427387904) (h3:m.last<=1000000000) (hc:bp rec.length<=m.count) (ht:¬m.last<m.top) (hr:¬m.room<bp rec.length) (hw:D.waits.length+65536<100000000):
 R 131 [.ptr r 0,v] st fun x st'=>∃res,D.writes ((List.range (bp rec.length)).map (m.nW rec))=res/\x=I (if res.1=0 then 0 else 20)/\Kp (r::F) st st'/\(∃F',dt st' a F' res.2/\∀b∈F',b∈F\/st.next<=b)/\
   fF st' r a (if res.1=0 then {m with last:=m.last+bp rec.length,top:=m.last+bp rec.length}else m):=by
 have h':=h;obtain⟨g1,g2⟩:=h;refine bO ?_;rw[aac];refine(wb h' hd).same ?_;have hlen:=hv.len rec.length (by simp) (by omega);have e1:¬((m.count:Int)<bp rec.length):=by omega
 have e2:¬m.count<bp rec.length:=by omega
 have e3:IntKind.i64.wrap (4611686018427387904-(bp rec.length:Int))=4611686018427387904-(bp rec.length:Int):=bD (by omega);have e4:¬(4611686018427387904-(bp rec.length:Int)<m.last):=by omega
 simp only[tf,aAR,aBf,av,fj,aBV,aBm,af,ag,hlen];refine(Bi (by omega)).same ?_;simp only[fH,bA,ah,af,az,g2,ar,aAT,aAS,aAQ,au,av,dj,e1,aCy,ag,aAR,aBf];refine(Ci h').same ?_;simp only[ht,aCy,ag,aAR,aBf];refine(IX h' (by omega) h2 (by omega)).same ?_;simp only[fH,bA,ah,af,az,g2,ar,aAT,aAS,aAQ,au,av,dj,hr,aCy,ag,aAR,aBf,dJ,e3,e4];show dn _ _ _;simp only[aK,aL];generalize hN:bp rec.length=N at*
 refine bM (fun fu vs s=>∃i Di Fi,fu+i=N/\vs=[.ptr r 0,v,I N,I N,I i]/\Kp F st s/\dt s a Fi Di/\(∀b∈Fi,b∈F\/st.next<=b)/\Di.dead=false/\Di.waits.length=D.waits.length+i/\D.writes ((List.range N).map (m.nW rec))=Di.writes (((List.range N).drop i).map (m.nW rec))) ?_ (n:=N)
  ⟨0,D,F,rfl,rfl,Kp.refl _ _,hd,fun b hb=> .inl hb,tf,rfl,by simp⟩
 rintro fu vs s k ⟨i,Di,Fi,hi,rfl,hk,UW,Pp,amj,WE,E9⟩ next;have hn:=hk.next;have QI:=h'.keep hk Zo;simp only[aK,aL]
 by_cases hlt:i<N
 ·have a1:aj .lss none false (I i) (I N) s= .ok (.bool true) s:=by rw[av,de,aBc (by omega)]
  simp only[a1,af,ag,aBr,bG];have k7:Kp [] s (St.new s (.cells [.int .i64 0, .bool false, .ae] 200 false)):=(Kp.refl _ s).new _;have g7:(St.new s (.cells [.int .i64 0, .bool false, .ae] 200 false)).mem.get s.next=some (.cells [.int .i64 0, .bool false, .ae] 200 false):=aq _ _;have hn7:(St.new s (.cells [.int .i64 0, .bool false, .ae] 200 false)).next=s.next+1:=rfl;generalize St.new s (.cells [.int .i64 0, .bool false, .ae] 200 false)=s7 at*;have Zp:=QI.keep k7 (by simp);have Xe:=Zp.2;have hv7:Sl s7 F v 1 (ai rec):=(hv.mono hk).mono (k7.mono (by simp));have acz:=hv7.len rec.length (by simp) (by omega);have b1:aj .add none true (I m.last) (.int .i64 1) s7= .ok (I ((m.last+1:Nat):Int)) s7:=by rw[av,cN,bD (by omega)];rfl
  have b2:aj .add none false (I ((m.last+1:Nat):Int)) (I i) s7= .ok (I ((m.last+1+i:Nat):Int)) s7:=by rw[av,cN,bD (by omega)];rfl
  have b3:aj .sub none true (I N) (.int .i64 1) s7= .ok (I ((N-1:Nat):Int)) s7:=by rw[av,dJ,bD (by omega)];congr 2;omega
  have b4:aj .eql (some .int) false (I i) (I ((N-1:Nat):Int)) s7= .ok (.bool (decide (i+1=N))) s7:=by
   rw[av,cB];congr 2;simp only[aBu];omega
  have b5:aj .mul none true (I i) (.int .i64 501) s7= .ok (I ((i*501:Nat):Int)) s7:=by rw[av,jQ,bD (by omega)];rfl
  have b6:aj .add none true (I ((i*501:Nat):Int)) (.int .i64 501) s7= .ok (I ((i*501+501:Nat):Int)) s7:=by rw[av,cN,bD (by omega)];rfl
  have b7:Bm false (I ((i*501+501:Nat):Int)) (I rec.length) s7= .ok (I ((min (i*501+501) rec.length:Nat):Int)) s7:=by
   have e:Bm false (I ((i*501+501:Nat):Int)) (I rec.length) s7= .ok (I (if (rec.length:Int)<((i*501+501:Nat):Int)then (rec.length:Int)else ((i*501+501:Nat):Int))) s7:=rfl;rw[e];congr 2;split<;>omega
  have DQ:=EC (len:=rec.length) (i:=i) (by rw[hN];exact hlt);obtain⟨v2,p1,p2⟩:=hv7.both (n:=rec.length) (by omega) (by simp) (l:=i*501) (h:=min (i*501+501) rec.length) (by omega) (by omega) s7
  have SV:List.take ((min (i*501+501) rec.length-i*501)*1) (List.drop (i*501*1) (ai rec))=ai (cW rec m.last N i).data:=by
   unfold cW ai;rw[aCF,aCF,<-aCt,<-aCE]
   congr 1
   by_cases hm:i*501+501<=rec.length
   ·rw[aBH hm];congr 1;omega
   ·rw[Nat.min_eq_right (by omega),aBa (by simp),aBa (by simp;omega)]
  rw[SV]at p2;obtain⟨v21,v22,v23⟩:=p2.bu
  have mP:bJ [.int .i64 0, .bool false, .ae] [(0,1,I ((m.last+1+i:Nat):Int)),(1,1, .bool (decide (i+1=N))),(2,1,v2)] s7= .ok (.agg [I ((m.last+1+i:Nat):Int), .bool (decide (i+1=N)),v2]) s7:=by
   rw[dO];simp[cI,bt,v21,v23]
  have jR:bt [.int .i64 0, .bool false, .ae] 0 [I ((m.last+1+i:Nat):Int), .bool (decide (i+1=N)),v2]=[I ((m.last+1+i:Nat):Int), .bool (decide (i+1=N)),v2]:=dV _ _ rfl;simp only[bA,ah,af,az,Xe,ar,aAT,aAS,aAQ,au,b1,b2,b3,b4,b5,b6,acz,b7,p1,mP,jq g7,aT,aH,g7,aS,aU,jR];refine⟨⟨rfl,by simp[v22],by simp⟩,⟨trivial,trivial,trivial⟩,trivial, ?_⟩;have k8:Kp [] s (St.set s7 s.next (.cells [I ((m.last+1+i:Nat):Int), .bool (decide (i+1=N)),v2] 200 false)):=k7.set _ (.inr (aAU _)) (by omega);have g8:(St.set s7 s.next (.cells [I ((m.last+1+i:Nat):Int), .bool (decide (i+1=N)),v2] 200 false)).mem.get s.next=some (.cells [I ((m.last+1+i:Nat):Int), .bool (decide (i+1=N)),v2] 200 false):=ao _ _ _;have k78:Kp [s.next] s7 (St.set s7 s.next (.cells [I ((m.last+1+i:Nat):Int), .bool (decide (i+1=N)),v2] 200 false)):=(Kp.refl _ s7).set _ (.inl (by simp)) (by omega);have hn8:(St.set s7 s.next (.cells [I ((m.last+1+i:Nat):Int), .bool (decide (i+1=N)),v2] 200 false)).next=s.next+1:=hn7
  have p8:Sl (St.set s7 s.next (.cells [I ((m.last+1+i:Nat):Int), .bool (decide (i+1=N)),v2] 200 false)) [] v2 1 (ai (cW rec m.last N i).data):=by
   obtain⟨v3,p3,p4⟩:=((hv.mono hk).ef (Y:=[]) (by simp)).both (n:=rec.length) (by omega) (by simp) (l:=i*501) (h:=min (i*501+501) rec.length) (by omega) (by omega) s7;rw[p1]at p3;cases p3;rw[SV]at p4;exact p4.mono k8
  generalize St.set s7 s.next (.cells [I ((m.last+1+i:Nat):Int), .bool (decide (i+1=N)),v2] 200 false)=s8 at*;rw[aO (n:=3) g8 rfl,af];have UC:(cW rec m.last N i).data.length<=501:=by unfold cW;simp;omega
  refine(Bb (p:=cW rec m.last N i) p8 UC (by unfold cW;simp;omega)).mono ?_;rintro _ s9 ⟨rfl,k9⟩;have kN:=Piece.pS (cW rec m.last N i) UC;have WU:(ai (cW rec m.last N i).bX).length=512:=by simpa using kN
  have Ra:(St.new s9 (.cells (zr 512) 233 false)).mem.get s9.next=some (.cells (zr 512) 233 false):=aq _ _;have De:bt (zr 512) 0 (ai (cW rec m.last N i).bX)=ai (cW rec m.last N i).bX:=dV _ _ (by rw[WU];exact List.length_replicate.symm);simp only[cM,aT,aH,Ra,aS,aU,De];refine⟨⟨WU,bE _,by simp⟩, ?_⟩;have hn9:=k9.next;have pJ:Kp [] s (St.set (St.new s9 (.cells (zr 512) 233 false)) s9.next (.cells (ai (cW rec m.last N i).bX) 233 false)):=((k8.trans k9 (by simp)).new _).set _ (.inr (by omega)) (by simp);have ajH:Kp [] s9 (St.set (St.new s9 (.cells (zr 512) 233 false)) s9.next (.cells (ai (cW rec m.last N i).bX) 233 false)):=((Kp.refl _ s9).new _).set _ (.inr (aAU _)) (by simp);have g11:(St.set (St.new s9 (.cells (zr 512) 233 false)) s9.next (.cells (ai (cW rec m.last N i).bX) 233 false)).mem.get s9.next=some (.cells (ai (cW rec m.last N i).bX) 233 false):=ao _ _ _;have acj:(St.set (St.new s9 (.cells (zr 512) 233 false)) s9.next (.cells (ai (cW rec m.last N i).bX) 233 false)).next=s9.next+1:=rfl;generalize St.set (St.new s9 (.cells (zr 512) 233 false)) s9.next (.cells (ai (cW rec m.last N i).bX) 233 false)=dm at*;have Xf:=QI.keep pJ (by simp);have Uz:=Xf.2;have g8':=(ajH.keep s.next (by omega) (by simp)).trans ((k9.keep s.next (by omega) (by simp)).trans g8);simp only[bA,ah,af,az,Uz,g8',ar,aAT,aAQ,au];refine(yK Xf h0 (by omega) (n:=m.last+1+i) (by omega)).same ?_;have Ai:bP 512 1 (.ptr s9.next 0) none none dm= .ok (.slice s9.next 0 512 512 0) dm:=rfl;simp only[Ai,af,Uz,ar,aAQ,au];have abN:Sl dm Fi (.slice s9.next 0 512 512 0) 1 (ai (cW rec m.last N i).bX):= .inr ⟨s9.next,0,512,512,0,rfl,by rw[WU],⟨aAU _, .inl rfl⟩, .inr ⟨fun h=>by have:=UW.lt _ h;omega,by omega,_,_,_,g11,by omega,by rw[aBx,aBa (by omega)]⟩⟩;refine(uD (UW.keep pJ (by simp)) (pJ.fresh (hk.fresh hf)) (by omega) abN kN).mono ?_;rintro _ eh ⟨rfl,pI,F',adk,qN⟩;have avy:=pI.next;have Ig:Kp F st eh:=(hk.trans pJ (by simp)).trans pI Pp
  have Lj:∀b∈F',b∈F\/st.next<=b:=fun b hb=>(qN b hb).elim (Pp b) fun h=> .inr (by have:=pJ.next;omega);have aks:r∉Fi:=fun h=>(Pp r h).elim Zo fun h2=>by have:=h'.1;omega
  have akv:=Xf.keep pI aks
  have XO:(List.range N).drop i=i::(List.range N).drop (i+1):=by
   rw[aBj (by simpa using hlt)];simp
  have zn:m.nW rec i=(m.place (m.last+1+i),(cW rec m.last N i).bX):=by unfold RingM.nW;rw[hN]
  rw[XO,aBA,zn]at E9;simp only[aV.writes]at E9;refine⟨⟨⟨trivial,trivial⟩,trivial,trivial⟩,trivial, ?_⟩
  by_cases hz:(Di.write ((m.place (m.last+1+i):Nat):Int) (cW rec m.last N i).bX).1=0
  ·rw[aBb hz]at E9;obtain⟨z1,z2,z3⟩:=yi hz;have a3:∀s,jr .add .i64 (i:Int) .i64 1 s= .ok (I ((i+1:Nat):Int)) s:=fun s=>by rw[cN,bD (by omega)];rfl
   simp only[hz,av,fj,aBV,aBm,af,ag,aAR,aBf,a3];exact next (fu-1) _ _ (by omega) ⟨i+1,_,F',by omega,rfl,Ig,adk,Lj,by rw[z1];exact amj,by rw[z2];simp;omega,E9⟩
  ·rw[aAZ hz]at E9;simp only[av,fj,hz,aCy,aBk,af,ag,aBr];refine⟨_,E9,by rw[aAZ hz],Ig.mono (fun q hq=> .inl (by simp[hq])),⟨F',adk,Lj⟩, ?_⟩;rw[aAZ hz];exact akv
 ·have a1:aj .lss none false (I i) (I N) s= .ok (.bool false) s:=by rw[av,de,aAW (by omega)]
  have hiN:i=N:=by omega
  subst hiN;have akq:=QI.2;simp only[a1,af,ag,aAR,aBf];have O3:(List.range i).drop i=[]:=aBC (by simp);rw[O3]at E9;have a2:aj .add none false (I m.last) (I i) s= .ok (I ((m.last+i:Nat):Int)) s:=by rw[av,cN,bD (by omega)];rfl
  have c1:bt [CV.ptr a 0,I m.first,I m.count,I m.base,I m.last,I m.top] 4 [I ((m.last+i:Nat):Int)]=[CV.ptr a 0,I m.first,I m.count,I m.base,I ((m.last+i:Nat):Int),I m.top]:=rfl;have c2:bt [CV.ptr a 0,I m.first,I m.count,I m.base,I ((m.last+i:Nat):Int),I m.top] 5 [I ((m.last+i:Nat):Int)]=[CV.ptr a 0,I m.first,I m.count,I m.base,I ((m.last+i:Nat):Int),I ((m.last+i:Nat):Int)]:=rfl;simp only[bA,ah,af,az,akq,ar,aAT,aAS,aAQ,au,a2,nV,aH,aS,iF,c1,ao,c2,set_set];refine⟨⟨rfl,rfl,by simp⟩,⟨rfl,rfl,by simp⟩,(0,Di),E9,rfl,(hk.mono fun q hq=> .inl (by simp[hq])).set _ (.inl (by simp)) QI.1,⟨Fi,UW.keep (X:=[r]) ((Kp.refl _ s).set _ (.inl (by simp)) QI.1) (fun b hb=>by simp;exact fun e=>(Pp r (e▸hb)).elim Zo fun h2=>by have:=h'.1;omega),Pp⟩, ?_⟩;exact⟨QI.1,ao _ _ _⟩
end
