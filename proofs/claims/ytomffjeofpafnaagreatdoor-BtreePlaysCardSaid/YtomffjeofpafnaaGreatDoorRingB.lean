import Derived.Test.YtomffjeofpafnaaGreatDoorRingA
namespace Lim
open Go
noncomputable section
set_option maxRecDepth 100000
section
variable {st st':St}
theorem rE {f:CV}{args:List CV}{Q Q':CV->St->Prop}(h:fB R f args st Q)(hq:∀v s,Q v s->Q' v s):fB R f args st Q':=by
 unfold fB at*
 split at h
 ·exact R.mono h hq
 ·exact h.elim
def lu (st:St)(G:List Nat):List CV->List (List UInt8)->Prop
 |[],[]=>True
 |v::vs,l::ls=>kK st G v 1 (ai l)/\lu st G vs ls
 |_,_=>False
theorem lu.keep {G X:List Nat}{vs:List CV}{L:List (List UInt8)}(h:lu st G vs L)(hk:Kp X st st')(hx:∀b∈G,b∉X):lu st' G vs L:=by
 induction vs generalizing L with
 |nil=>cases L with|nil=>trivial|cons l L=>exact h
 |cons v vs ih=>cases L with|nil=>exact h|cons l L=>exact⟨h.1.keep hk hx,ih h.2⟩
theorem lu.mono {G H:List Nat}{vs:List CV}{L:List (List UInt8)}(h:lu st G vs L)(hg:∀b∈G,b∈H):lu st H vs L:=by
 induction vs generalizing L with
 |nil=>cases L with|nil=>trivial|cons l L=>exact h
 |cons v vs ih=>cases L with|nil=>exact h|cons l L=>exact⟨h.1.mono hg,ih h.2⟩
theorem lu.snoc {G:List Nat}{vs:List CV}{L:List (List UInt8)}{v:CV}{l:List UInt8}(h:lu st G vs L)(hv:kK st G v 1 (ai l)):lu st G (vs++[v]) (L++[l]):=by
 induction vs generalizing L with
 |nil=>cases L with|nil=>exact⟨hv,trivial⟩|cons l L=>exact h.elim
 |cons v vs ih=>cases L with|nil=>exact h.elim|cons l L=>exact⟨h.1,ih h.2⟩
theorem lu.len {G:List Nat}{vs:List CV}{L:List (List UInt8)}(h:lu st G vs L):vs.length=L.length:=by
 induction vs generalizing L with
 |nil=>cases L with|nil=>rfl|cons l L=>exact h.elim
 |cons v vs ih=>cases L with|nil=>exact h.elim|cons l L=>simp[ih h.2]
theorem lu.one {G:List Nat}{vs:List CV}{L:List (List UInt8)}(h:lu st G vs L):aV vs=true:=by
 induction vs generalizing L with
 |nil=>rfl
 |cons v vs ih=>cases L with|nil=>exact h.elim|cons l L=>rw[tk,h.1.nil.bG.2.1,ih h.2];rfl
def mG (P:Nat->Piece)(count:Nat):Nat->Nat->List UInt8->List (List UInt8)->Nat->List (List UInt8)×Nat
 |0,_,_,out,last=>(out,last)
 |f+1,n,now,out,last=>if (P ((n+1)%count)).n=n+1 then
   (if (P ((n+1)%count)).last=true then mG P count f (n+1) [] (out++[now++(P ((n+1)%count)).data]) (n+1)else mG P count f (n+1) (now++(P ((n+1)%count)).data) out last)
  else (out,last)
def nJ (st:St)(x:CV)(L:List (List UInt8))(Fo G:List Nat):Prop:=∃vs,Own st x 1 93 vs Fo/\lu st G vs L/\(∀b∈Fo,b<st.next)/\(∀b∈G,b<st.next)/\∀b∈Fo,b∉G
structure Yd (mu:St)(r a c q:Nat)(F:List Nat)(D:aT)(P:Nat->Piece)(m:RingM)(f:CV)(fuel:Nat)(vs:List CV)(s:St)(n:Nat)(now:List UInt8)(out:List (List UInt8))(last:Nat)(xo xn:CV)(Fo Fn G:List Nat):Prop where
 vs:vs=[.ptr r 0,xo,xn,f]
 fu:n+fuel=m.base+m.count
 lo:m.base<=n
 kp:Kp [r] mu s
 ring:fE s r a {m with last:=last}
 Db:du s a F D
 nx:oG s f c q r n
 atk:nJ s xo out Fo G
 own:Own s xn 1 5 (ai now) Fn
 ltn:∀b∈Fn,b<s.next
 ge:∀b,b∈Fo\/b∈Fn\/b∈G->mu.next<=b/\b≠c/\b≠q
 Uo:∀b∈Fn,b∉Fo/\b∉G
 szn:now.length<=501*n
 szo:out.length<=n
 tgt:mG P m.count fuel n now out last=mG P m.count m.count m.base [] [] m.last
theorem G8 {r a:Nat}{m:RingM}{F:List Nat}{D:aT}{P:Nat->Piece}(hf:cY st)(h:fE st r a m)(hd:du st a F D)(hr:r∉F)(qI:D.dead=false)(hp:rM D m P)(hb:m.base<=1000000000):
 R 115 [.ptr r 0] st fun x st'=>∃xo Fo G,x= .tuple [xo,I 0]/\Kp [r] st st'/\fE st' r a {m with last:=(mG P m.count m.count m.base [] [] m.last).2}/\nJ st' xo (mG P m.count m.count m.base [] [] m.last).1 Fo G/\∀b,b∈Fo\/b∈G->st.next<=b:=by
 refine bN ?_;rw[ahz];show R 154 [.ptr r 0] st _;refine(He h).mono ?_;rintro f s1 ⟨k1,c,q,Ao,hc,hq⟩;simp only[aJ,aK];refine bK (fun fuel vs s=>∃n now out last xo xn Fo Fn G,Yd st r a c q F D P m f fuel vs s n now out last xo xn Fo Fn G) ?_ (n:=m.count) ⟨m.base,[],[],m.last, .ae, .ae,[],[],[],rfl,rfl,aAE _,k1.mono (by simp),h.keep k1 (by simp),hd.keep k1 (by simp),Ao,⟨[], .inl ⟨rfl,rfl,rfl⟩,trivial,by simp,by simp,by simp⟩, .inl ⟨rfl,rfl,rfl⟩,by simp,by simp,by simp,by simp,by simp,rfl⟩;rintro fuel vs s k ⟨n,now,out,last,xo,xn,Fo,Fn,G,I⟩ next;obtain⟨rfl,i1,i2,i3,i4,i5,i6,i7,i8,i9,Bb,i11,i12,i13,Nl⟩:=I;have XA:∀s:St,True:=fun _=>trivial;have nN:=i3.next;have Nt:r<st.next:=h.1;have hp':rM D {m with last:=last} P:=⟨hp.pos,hp.fits,hp.jv,hp.base,hp.cur⟩;simp only[aJ,aK];obtain⟨vsr,j1,j2,j3,j4,j5⟩:=i7;have WZ:∀(s':St),Kp [c] s s'->Kp [r] st s':=fun s' hk=>i3.trans hk (by simp;right;exact hc)
 by_cases CS:fuel=0
 ·subst CS;refine rE (M0 i4 hp' i6 (by simpa using i1)) ?_;rintro _ s3 ⟨rfl,k3⟩;have g4:(St.new s3 (.cells [.int .i64 0, .bool false, .ae] 200 false)).mem.get s3.next=some (.cells [.int .i64 0, .bool false, .ae] 200 false):=au _ _;have kk:∀blk,Kp [] s (St.set (St.new s3 (.cells [.int .i64 0, .bool false, .ae] 200 false)) s3.next blk):=fun blk=>(k3.new _).set _ (.inr k3.next) (by simp);simp only[aD,aN,af,cG,aS,aF,g4,aR,aX,aw,ff,aBA,aAU,aH,aAz,aAO,aAT,bo,dm,aG,ag,aAY];refine⟨⟨rfl,rfl,by decide⟩,xo,Fo,G,rfl,i3.trans (kk _) (by simp), ?_, ?_,fun b hb=>(Bb b (by rcases hb with h|h<;>simp[h])).1⟩
  ·rw[<-Nl];exact i4.keep (kk _) (by simp)
  ·rw[<-Nl];exact⟨vsr,j1.keep (kk _) fun b hb=>⟨j3 b hb,by simp⟩,j2.keep (kk _) (by simp),fun b hb=>aAZ (j3 b hb) (kk (.map [] 0)).next,fun b hb=>aAZ (j4 b hb) (kk (.map [] 0)).next,j5⟩
 ·obtain⟨fu,rfl⟩:∃fu,fuel=fu+1:=⟨fuel-1,by omega⟩;have hrc:r≠c:=by omega
  have hrq:r≠q:=by omega
  have hcF:c∉F:=fun h=>by have:=hd.lt c h;omega
  refine rE (QX (i3.fresh hf) i4 i5 hr qI hp' i6 (by simp;omega) (by simpa using i2) (by simp;omega) hrc hrq hcF) ?_;rintro _ s3 ⟨_,rfl,⟨v,Fv,rfl,k3,ho,KE⟩,akx⟩;have e0:RingM.is {m with last:=last} P (n+1)↔(P ((n+1)%m.count)).n=n+1:=Iff.rfl;rw[show decide (RingM.is {m with last:=last} P (n+1))=decide ((P ((n+1)%m.count)).n=n+1)from decide_eq_decide.2 e0];simp only[mG]at Nl;generalize hP:P ((n+1)%m.count)=p at*;have g4:(St.new s3 (.cells [.int .i64 0, .bool false, .ae] 200 false)).mem.get s3.next=some (.cells [.int .i64 0, .bool false, .ae] 200 false):=au _ _;have kG:bp [.int .i64 0, .bool false, .ae] 0 [I p.n, .bool p.last,v]=[I p.n, .bool p.last,v]:=dY _ _ rfl;obtain⟨o1,o2⟩:=ho.cr;have k5:Kp [c] s (St.set (St.new s3 (.cells [.int .i64 0, .bool false, .ae] 200 false)) s3.next (.cells [I p.n, .bool p.last,v] 200 false)):=(k3.new _).set _ (.inr k3.next) (by simp);have Lz:Kp [] s3 (St.set (St.new s3 (.cells [.int .i64 0, .bool false, .ae] 200 false)) s3.next (.cells [I p.n, .bool p.last,v] 200 false)):=((Kp.refl _ s3).new _).set _ (.inr (aAE _)) (by simp);have g5:(St.set (St.new s3 (.cells [.int .i64 0, .bool false, .ae] 200 false)) s3.next (.cells [I p.n, .bool p.last,v] 200 false)).mem.get s3.next=some (.cells [I p.n, .bool p.last,v] 200 false):=ao _ _ _;have hn5:(St.set (St.new s3 (.cells [.int .i64 0, .bool false, .ae] 200 false)) s3.next (.cells [I p.n, .bool p.last,v] 200 false)).next=s3.next+1:=rfl;simp only[aD,aN,af,cG,aS,aF,g4,aR,aX,kG,aw,ff,aBA,aAU,aH,aAz,aAO,aAT,bo,dm,aG,ag,aAY];refine⟨⟨rfl,by simp[o1],by decide⟩, ?_⟩;generalize St.set (St.new s3 (.cells [.int .i64 0, .bool false, .ae] 200 false)) s3.next (.cells [I p.n, .bool p.last,v] 200 false)=s5 at*;have hn3:=k3.next;have nc:∀b,b∈Fo\/b∈Fn\/b∈G->b∉[c]:=fun b hb=>by simpa using (Bb b hb).2.1
  have hr5:=i4.keep k5 (by simpa using hrc);have hd5:=i5.keep k5 (fun b hb=>by simp;exact fun e=>hcF (e▸hb));have hx5:oG s5 f c q r (n+1):=akx.keep Lz (by simp) (by simp);have jo5:=j1.keep k5 fun b hb=>⟨j3 b hb,nc b (.inl hb)⟩;have js5:=j2.keep k5 fun b hb=>nc b (.inr (.inr hb));have ow5:=i8.keep k5 fun b hb=>⟨i9 b hb,nc b (.inr (.inl hb))⟩;have ov5:=ho.keep Lz fun b hb=>⟨(KE b hb).2,by simp⟩
  by_cases Y4:p.n=n+1
  ·rw[aAJ Y4,aAU,aAH (by decide)];rw[aAI Y4]at Nl
   have aqj:p.data.length<=501:=by
    obtain⟨_,u⟩:=hp.cur _ (Nat.mod_lt (n+1) hp.pos);rw[hP]at u;exact u.2.1
   have hvF:∀b∈Fv,s.next<=b/\b<s5.next/\b≠s3.next:=fun b hb=>by have:=KE b hb;omega
   have hsv:Sl s5 [] v 1 (ai p.data):=ov5.sl fun b hb=>⟨by simp,(hvF b hb).2.1⟩;obtain⟨nn,PD,Al⟩:=hsv.src [(.int .u8 0)];simp at PD;subst PD;have q1:=hp.fits;have q2:=hp.jv;obtain⟨Lq,s6,Zp,a1,a2,a3,a4⟩:=ow5.append (n:=p.data.length) (bytes:=1) (T:=ai p.data) (by omega) (by simp) (bB _) (fun b hb=>by have:=i9 b hb;omega) (by simp;omega);have hn6:=a3.next;have ns3:s3.next∉Fn:=fun h=>by have:=i9 _ h;omega
   have g6:=(a3.keep s3.next (by omega) ns3).trans g5;simp only[fl,ah,af,aA,g5,aq,aAF,aAA,aAy,av,Al,a1,aS,g6,ag];have Fm:∀b∈Zp,(b∈Fn\/s5.next<=b)/\b<s6.next:=fun b hb=>⟨(a4 b hb).1.imp id fun h=>by omega,(a4 b hb).2⟩;have nF:∀b,b∈Fo\/b∈G->b∉Fn:=fun b hb h=>(hb.elim (i11 b h).1 (i11 b h).2);have lF:∀b,b∈Fo\/b∈G->b<s5.next:=fun b hb=>by rcases hb with h|h;have:=j3 b h;omega;have:=j4 b h;omega
   have nr:r∉Fn:=fun h=>by have:=(Bb r (.inr (.inl h))).1;omega
   have nc':c∉Fn:=fun h=>(Bb c (.inr (.inl h))).2.1 rfl;have nq':q∉Fn:=fun h=>(Bb q (.inr (.inl h))).2.2 rfl;have hr6:=hr5.keep a3 nr;have za:=hd5.keep a3 (fun b hb h=>by have:=(Bb b (.inr (.inl h))).1;have:=hd.lt b hb;omega);have hx6:=hx5.keep a3 nc' nq';have jo6:=jo5.keep a3 fun b hb=>⟨lF b (.inl hb),nF b (.inl hb)⟩;have js6:=js5.keep a3 fun b hb=>nF b (.inr hb);have CP:Kp [r] st s6:=(WZ s5 k5).trans a3 fun b hb=> .inr (Bb b (.inr (.inl hb))).1
   have Xb:∀b,b∈Fo\/b∈Zp\/b∈G->st.next<=b/\b≠c/\b≠q:=fun b hb=>by
    rcases hb with hb|hb|hb
    ·exact Bb b (.inl hb)
    ·rcases(Fm b hb).1 with h|h
     ·exact Bb b (.inr (.inl h))
     ·have:=i6.2.1;have:=i6.2.2.1;omega
    ·exact Bb b (.inr (.inr hb))
   have NU:∀b∈Zp,b∉Fo/\b∉G:=fun b hb=>by
    rcases(Fm b hb).1 with h|h
    ·exact i11 b h
    ·exact⟨fun h2=>by have:=lF b (.inl h2);omega,fun h2=>by have:=lF b (.inr h2);omega⟩
   by_cases hl:p.last=true
   ·rw[aAI hl];rw[aAI hl]at Nl;have RP:=CP.fresh hf;obtain⟨b1,b2⟩:=a2.cr;have b3:Lq.isAny=false:=(a2.sl (X:=[]) fun b hb=>⟨by simp,(Fm b hb).2⟩).bG.1
    have yZ:fX [(0,1,Lq)] (cH 1 [CV.ae])=some [Lq]:=by
     rw[cF,aAI ⟨⟨by rw[b2];rfl,b3⟩,by rw[b2];exact aAE _⟩,kv,b2];rfl
    have im:(St.skip s6).mem.get s6.next=none:=RP _ (aAE _);rw[bt,jb im yZ,aS];have k7:Kp [] s6 (St.set (St.skip s6) s6.next (.cells [Lq] 93 false)):=((Kp.refl _ s6).skip).set _ (.inr (aAE _)) (by simp);have g77:(St.set (St.skip s6) s6.next (.cells [Lq] 93 false)).mem.get s6.next=some (.cells [Lq] 93 false):=ao _ _ _;have hn7:(St.set (St.skip s6) s6.next (.cells [Lq] 93 false)).next=s6.next+1:=rfl;generalize St.set (St.skip s6) s6.next (.cells [Lq] 93 false)=s7 at*;have jo7:=jo6.keep k7 fun b hb=>⟨by have:=lF b (.inl hb);omega,by simp⟩;have js7:=js6.keep k7 (by simp)
    have sn7:kK s7 Zp Lq 1 (ai (now++p.data)):=by
     have:=a2.keep k7 fun b hb=>⟨(Fm b hb).2,by simp⟩;rw[bE];exact this.ZX fun b hb=>by have:=(Fm b hb).2;omega
    have hvl:=js7.len;rw[Em (k:=1) (n:=1) g77 (by omega) rfl];obtain⟨xo',s8,Fo',c1,c2,c3,c4⟩:=jo7.append (n:=1) (bytes:=24) (T:=[Lq]) (by omega) rfl (by rw[tk,b1];rfl) (fun b hb=>by have:=lF b (.inl hb);omega) (by simp;omega);have hn8:=c3.next;have aiR:s3.next∉Fo:=fun h=>by have:=j3 _ h;omega
    have nro:r∉Fo:=fun h=>by have:=(Bb r (.inl h)).1;omega
    have nco:c∉Fo:=fun h=>(Bb c (.inl h)).2.1 rfl;have nqo:q∉Fo:=fun h=>(Bb q (.inl h)).2.2 rfl;have g7:=(k7.keep s3.next (by omega) (by simp)).trans g6;have g8:=(c3.keep s3.next (by omega) aiR).trans g7;have hr8:=(hr6.keep k7 (by simp)).keep c3 nro;have aka:=hr8.2;have Gs:=(za.keep k7 (by simp)).keep c3 (fun b hb h=>by have:=(Bb b (.inl h)).1;have:=hd.lt b hb;omega);have hx8:=(hx6.keep k7 (by simp) (by simp)).keep c3 nco nqo;have Y2:Kp [r] st s8:=(CP.trans k7 (by simp)).trans c3 fun b hb=> .inr (Bb b (.inl hb)).1;have js8:=js7.keep c3 fun b hb h=>j5 b h hb;have sn8:=sn7.keep c3 fun b hb h=>(NU b hb).1 h;have Oh:∀b∈Fo',(b∈Fo\/s7.next<=b)/\b<s8.next:=fun b hb=>⟨(c4 b hb).1.imp id fun h=>by omega,(c4 b hb).2⟩;have Wv:bp [CV.ptr a 0,I m.first,I m.count,I m.base,I last,I m.top] 4 [I p.n]=[CV.ptr a 0,I m.first,I m.count,I m.base,I p.n,I m.top]:=rfl;simp only[c1,aS,ah,af,aA,g7,g8,aq,aAF,aAy,av,br,aF,aka,aR,iC,Wv];refine⟨⟨rfl,rfl,by simp⟩,⟨⟨trivial,trivial,trivial⟩,trivial⟩,⟨trivial,trivial⟩, ?_⟩;have abt:=hr8.1;have CH:∀b,b≠r->(St.set s8 r (.cells [.ptr a 0,I m.first,I m.count,I m.base,I p.n,I m.top] 198 false)).mem.get b=s8.mem.get b:=fun b hb=>al _ _ _ _ hb;have k9:Kp [r] s8 (St.set s8 r (.cells [.ptr a 0,I m.first,I m.count,I m.base,I p.n,I m.top] 198 false)):=(Kp.refl _ s8).set _ (.inl (by simp)) abt;have ner:∀b,st.next<=b->b∉[r]:=fun b hb=>by simp;omega
    refine next fu _ _ (by omega) ⟨n+1,[],out++[now++p.data],n+1,xo', .ae,Fo',[],Zp++G,rfl,by omega,by omega,Y2.trans k9 (by simp),⟨abt,by rw[ao,Y4]⟩,Gs.keep k9 (fun b hb=>by simp;exact fun e=>hr (e▸hb)),hx8.keep k9 (by simpa using aBE hrc) (by simpa using aBE hrq),⟨vsr++[Lq],c2.keep k9 fun b hb=>⟨(Oh b hb).2,ner b ?_⟩, ?_,fun b hb=>(Oh b hb).2, ?_, ?_⟩, .inl ⟨rfl,rfl,rfl⟩,by simp, ?_,by simp,by simp,by simp;omega,Nl⟩
    ·rcases(Oh b hb).1 with h|h
     ·exact(Bb b (.inl h)).1
     ·have:=CP.next;omega
    ·refine lu.snoc ((js8.keep k9 fun b hb=>ner b (Bb b (.inr (.inr hb))).1).mono fun b hb=>by simp[hb]) ((sn8.keep k9 fun b hb=>ner b ?_).mono fun b hb=>by simp[hb]);exact(Xb b (.inr (.inl hb))).1
    ·intro b hb;show b<s8.next;rcases aAM.1 hb with h|h
     ·have:=(Fm b h).2;omega
     ·have:=lF b (.inr h);omega
    ·intro b hb h2;rcases(Oh b hb).1 with h|h
     ·rcases aAM.1 h2 with h3|h3
      ·exact(NU b h3).1 h
      ·exact j5 b h h3
     ·rcases aAM.1 h2 with h3|h3
      ·have:=(Fm b h3).2;omega
      ·have:=lF b (.inr h3);omega
    ·intro b hb;rcases hb with hb|hb|hb
     ·rcases(Oh b hb).1 with h|h
      ·exact Bb b (.inl h)
      ·have:=CP.next;have:=i6.2.1;have:=i6.2.2.1;omega
     ·simp at hb
     ·rcases aAM.1 hb with h|h
      ·exact Xb b (.inr (.inl h))
      ·exact Bb b (.inr (.inr h))
   ·rw[aAH hl];rw[aAH hl]at Nl;refine next fu _ _ (by omega) ⟨n+1,now++p.data,out,last,xo,Lq,Fo,Zp,G,rfl,by omega,by omega,CP,hr6,za,hx6,⟨vsr,jo6,js6,fun b hb=>by have:=j3 b hb;omega,fun b hb=>by have:=j4 b hb;omega,j5⟩,by rw[bE];exact a2,fun b hb=>(Fm b hb).2,Xb,NU,by simp;omega,by omega,Nl⟩
  ·rw[aAB Y4,aAT,aAI rfl];rw[aAH Y4]at Nl;refine⟨xo,Fo,G,rfl,WZ s5 k5, ?_, ?_,fun b hb=>(Bb b (by rcases hb with h|h<;>simp[h])).1⟩
   ·rw[<-Nl];exact hr5
   ·rw[<-Nl];exact⟨vsr,jo5,js5,fun b hb=>by have:=j3 b hb;omega,fun b hb=>by have:=j4 b hb;omega,j5⟩
end
section
variable {st st':St}
def lZ (P:Nat->Piece)(count base:Nat):Nat->Nat
 |0=>base
 |i+1=>if (P i).n≠0/\(P i).n%count=i then max (lZ P count base i) (P i).n else lZ P count base i
theorem Ir (P:Nat->Piece)(count base B:Nat)(hb:base<=B)(h:∀j,j<count->(P j).n<=B):∀i,i<=count->lZ P count base i<=B:=by
 intro i
 induction i with
 |zero=>intro _;exact hb
 |succ i ih=>
  intro hi;simp only[lZ];have:=ih (by omega);have:=h i (by omega)
  split<;>omega
def RingM.opened (first count base:Nat)(P:Nat->Piece):RingM:=⟨first,count,base,(mG P count count base [] [] base).2,lZ P count base count⟩
theorem ye {a:Nat}{F:List Nat}{D:aT}{P:Nat->Piece}{first count base:Nat}(hf:cY st)(hd:du st a F D)(qI:D.dead=false)(hp:rM D ⟨first,count,base,base,base⟩ P)(hb:base<=1000000000):
 R 69 [.ptr a 0,I first,I count,I base] st fun x st'=>∃r xo Fo G,x= .tuple [.ptr r 0,xo,I 0]/\Kp [] st st'/\fE st' r a (RingM.opened first count base P)/\nJ st' xo (mG P count count base [] [] base).1 Fo G/\(∀b,b∈Fo\/b∈G->st.next<=b)/\st.next<=r:=by
 refine bN ?_;rw[w69];have q0:0<count:=hp.pos;have q1:first+count<=D.ay.length:=hp.fits
 have q2:=hp.jv;simp only[cU,af,ag,aAz,aAO];refine(tX hd).same ?_;have e1:¬(first:Int)<0:=by omega
 have e2:¬(count:Int)<1:=by omega
 have e3:¬(D.ay.length:Int)<count:=by omega
 have e4:IntKind.i64.wrap ((D.ay.length:Int)-count)=(D.ay.length:Int)-count:=bz (by omega);have e5:¬((D.ay.length:Int)-count<first):=by omega
 have e6:¬(base:Int)<0:=by omega
 have e7:¬(4611686018427387904:Int)<base:=by omega
 have mC:bD [.bq, .int .i64 0, .int .i64 0, .int .i64 0, .int .i64 0, .int .i64 0] [(0,1, .ptr a 0),(1,1,I first),(2,1,I count),(3,1,I base),(4,1,I base),(5,1,I base)] st= .ok (.agg [.ptr a 0,I first,I count,I base,I base,I base]) st:=by
  rw[dN];simp[cF,bp]
 simp only[aw,cP,dq,dW,af,e1,e2,e3,e4,e5,e6,e7,aCi,aH,aAz,aAO,aAT,bo,aG,ag,mC,cn,aX];refine⟨rfl, ?_⟩;show c8 _ _ _;simp only[aJ,aK];refine bK (fun fu vs s=>∃i,fu+i=count/\vs=[I first, .ptr st.next 0,I count,I i]/\Kp [] st s/\fE s st.next a ⟨first,count,base,base,lZ P count base i⟩) ?_ (n:=count) ⟨0,rfl,rfl,(Kp.refl _ st).new _,by simp,au _ _⟩;rintro fu vs s k ⟨i,hi,rfl,hk,hr⟩ next;have hn:=hk.next;have Dx:=hd.keep hk (by simp);have YR:st.next∉F:=fun h=>by have:=hd.lt _ h;omega
 have hle:=Ir P count base 4611686018427387904 (by omega) (fun j hj=>(hp.cur j hj).2.1);simp only[aJ,aK]
 by_cases hc:i<count
 ·have oD:(i:Int)<count:=by omega
  have a1:aj .lss none false (I i) (I count) s= .ok (.bool true) s:=by rw[aw,cP,aAJ oD]
  have a2:aj .add none false (I first) (I i) s= .ok (I ((first+i:Nat):Int)) s:=by rw[aw,cE,bz (by omega)];congr 2
  simp only[a1,a2,af,ag,aAY];obtain⟨u1,u2⟩:=hp.cur i hc;refine(DZ (hk.fresh hf) hr Dx YR qI q0 (by simp;omega) (at_:=first+i) (by omega) u2 u1).mono ?_;rintro _ s5 ⟨_,rfl,v,rfl,Fv,k5,ho,KE⟩;have hn5:=k5.next;obtain⟨o1,o2⟩:=ho.cr;have HE:(RingM.place ⟨first,count,base,base,lZ P count base i⟩ (P i).n=first+i)↔(P i).n%count=i:=by unfold RingM.place;simp
  have g4:(St.new s5 (.cells [.int .i64 0, .bool false, .ae] 200 false)).mem.get s5.next=some (.cells [.int .i64 0, .bool false, .ae] 200 false):=au _ _;have kG:bp [.int .i64 0, .bool false, .ae] 0 [I (P i).n, .bool (P i).last,v]=[I (P i).n, .bool (P i).last,v]:=dY _ _ rfl;have k7:Kp [] s (St.set (St.new s5 (.cells [.int .i64 0, .bool false, .ae] 200 false)) s5.next (.cells [I (P i).n, .bool (P i).last,v] 200 false)):=(k5.new _).set _ (.inr hn5) (by simp);have g7:(St.set (St.new s5 (.cells [.int .i64 0, .bool false, .ae] 200 false)) s5.next (.cells [I (P i).n, .bool (P i).last,v] 200 false)).mem.get s5.next=some (.cells [I (P i).n, .bool (P i).last,v] 200 false):=ao _ _ _;have hn7:(St.set (St.new s5 (.cells [.int .i64 0, .bool false, .ae] 200 false)) s5.next (.cells [I (P i).n, .bool (P i).last,v] 200 false)).next=s5.next+1:=rfl;simp only[aD,aN,af,cG,aS,aF,g4,aR,aX,kG,aw,ff,aBA,aAU,aAz,aAO,ag];refine⟨⟨rfl,by simp[o1],by decide⟩, ?_⟩;generalize St.set (St.new s5 (.cells [.int .i64 0, .bool false, .ae] 200 false)) s5.next (.cells [I (P i).n, .bool (P i).last,v] 200 false)=s7 at*;have YS:=hr.keep k7 (by simp);have Wq:=YS.2;have a3:∀s,ju .add .i64 (i:Int) .i64 1 s= .ok (I ((i+1:Nat):Int)) s:=fun s=>by rw[cE,bz (by omega)];rfl
  have alJ:decide ((P i).n≠0/\RingM.place ⟨first,count,base,base,lZ P count base i⟩ (P i).n=first+i)=decide ((P i).n≠0/\(P i).n%count=i):=decide_eq_decide.2 (and_congr_right fun _=>HE);rw[alJ]
  by_cases hq:(P i).n≠0/\(P i).n%count=i
  ·rw[aAJ hq,aAI rfl]
   have Rz:AW true (I (lZ P count base i)) (I (P i).n) s7= .ok (I ((lZ P count base (i+1):Nat):Int)) s7:=by
    have e:AW true (I (lZ P count base i)) (I (P i).n) s7= .ok (I (if (lZ P count base i:Int)<(P i).n then (P i).n else lZ P count base i)) s7:=rfl;rw[e];simp only[lZ];rw[aAI hq]
    congr 2
    split<;>omega
   have Wv:bp [CV.ptr a 0,I first,I count,I base,I base,I (lZ P count base i)] 5 [I ((lZ P count base (i+1):Nat):Int)]=[CV.ptr a 0,I first,I count,I base,I base,I ((lZ P count base (i+1):Nat):Int)]:=rfl;simp only[bt,br,ah,af,aA,Wq,g7,aq,aAF,aAA,aAy,av,Rz,aF,aR,iC,Wv,a3];refine⟨⟨rfl,rfl,by simp⟩,⟨trivial,trivial,trivial⟩,trivial, ?_⟩;exact next (fu-1) _ _ (by omega) ⟨i+1,by omega,rfl,(hk.trans k7 (by simp)).set _ (.inr (aAE _)) YS.1,YS.1,ao _ _ _⟩
  ·rw[aAB hq,aAH (by decide)];simp only[a3,af];refine next (fu-1) _ _ (by omega) ⟨i+1,by omega,rfl,hk.trans k7 (by simp), ?_⟩;have e:lZ P count base (i+1)=lZ P count base i:=by simp only[lZ];rw[aAH hq]
   rw[e];exact YS
 ·have oD:¬(i:Int)<count:=by omega
  have hic:i=count:=by omega
  have a1:aj .lss none false (I i) (I count) s= .ok (.bool false) s:=by rw[aw,cP,aAB oD]
  simp only[a1,af,ag,aAz,aAO];rw[hic]at hr;refine(G8 (hk.fresh hf) hr Dx YR qI ⟨hp.pos,hp.fits,hp.jv,hp.base,hp.cur⟩ hb).mono ?_;rintro _ s9 ⟨xo,Fo,G,rfl,k9,r9,ail,ge9⟩;simp only[aD,aN,af,aw,ff,aBA,aAU,aAz,aAO,ag];exact⟨st.next,xo,Fo,G,rfl,hk.trans k9 (by simp),r9,ail,fun b hb=>aBS hn (ge9 b hb),aAE _⟩
end
section
variable {st st':St}
def aT.writes (D:aT):List (Nat×jl)->Int×aT
 |[]=>(0,D)
 |w::r=>if (D.write w.1 w.2).1=0 then (D.write w.1 w.2).2.writes r else D.write w.1 w.2
def cT (rec:List UInt8)(last n i:Nat):Piece:=⟨last+1+i,decide (i+1=n),(rec.drop (i*501)).take 501⟩
def RingM.nM (m:RingM)(rec:List UInt8)(i:Nat):Nat×jl:=(m.place (m.last+1+i),(cT rec m.last (bj rec.length) i).bY)
theorem xN {D:aT}{i:Int}{s:jl}(h:(D.write i s).1=0):(D.write i s).2.dead=D.dead/\(D.write i s).2.waits=D.waits++[(i.toNat,s)]/\(D.write i s).2.ay=D.ay:=by
 unfold aT.write at*
 by_cases h1:D.dead=true
 ·rw[aAI h1]at h;cases h
 ·rw[aAH h1]at h⊢
  by_cases h2:i<0\/(D.ay.length:Int)<=i\/s.length≠512
  ·rw[aAI h2]at h;cases h
  ·rw[aAH h2]at h⊢
   by_cases h3:D.out
   ·rw[aAI h3]at h;cases h
   ·rw[aAH h3];exact⟨rfl,rfl,rfl⟩
theorem Eg {len i:Nat}(h:i<bj len):i*501<=len:=by
 unfold bj at h
 split at h
 ·omega
 ·omega
theorem FQ {r a:Nat}{m:RingM}{F X:List Nat}{D:aT}{v:CV}{rec:List UInt8}(h:fE st r a m)(hd:du st a F D)(qI:D.dead=false)(hv:Sl st X v 1 (ai rec))(hl:rec.length<=1000000000)
 (h1:m.count<=1000000) (h2:m.base<=4611686018427387904) (h3:m.last<=4611686018427387904) (hc:bj rec.length<=m.count) (ht:¬m.last<m.top) (hr:m.room<bj rec.length):R 131 [.ptr r 0,v] st fun x st'=>x=I 3/\st'=st:=by
 have h':=h;obtain⟨g1,g2⟩:=h;refine bN ?_;rw[ZE];refine(vR h' hd).same ?_;have e1:¬((m.count:Int)<bj rec.length):=by omega
 simp[qI,hv.len rec.length (by simp) (by omega)];refine(AS hl).same ?_;simp[fm,g2,e1,hc];have e2:¬m.count<bj rec.length:=by omega
 refine(BH h').same ?_;simp[ht];refine(IA h' h1 h2 h3).same ?_;simp[hr]
theorem Lf {r a:Nat}{m:RingM}{F:List Nat}{D:aT}{v:CV}{rec:List UInt8}(hf:cY st)(h:fE st r a m)(hd:du st a F D)(YR:r∉F)(qI:D.dead=false)(hv:Sl st F v 1 (ai rec))(hl:rec.length<=1000000)
 (h0:0<m.count) (h1:m.first+m.count<=65536) (h2:m.base<=4611686018427387904) (h3:m.last<=1000000000) (hc:bj rec.length<=m.count) (ht:¬m.last<m.top) (hr:¬m.room<bj rec.length) (hw:D.waits.length+65536<100000000):
 R 131 [.ptr r 0,v] st fun x st'=>∃res,D.writes ((List.range (bj rec.length)).map (m.nM rec))=res/\x=I (if res.1=0 then 0 else 20)/\Kp (r::F) st st'/\(∃F',du st' a F' res.2/\∀b∈F',b∈F\/st.next<=b)/\
   fE st' r a (if res.1=0 then {m with last:=m.last+bj rec.length,top:=m.last+bj rec.length}else m):=by
 have h':=h;obtain⟨g1,g2⟩:=h;refine bN ?_;rw[ZE];refine(vR h' hd).same ?_;have hlen:=hv.len rec.length (by simp) (by omega);have e1:¬((m.count:Int)<bj rec.length):=by omega
 have e2:¬m.count<bj rec.length:=by omega
 have e3:IntKind.i64.wrap (4611686018427387904-(bj rec.length:Int))=4611686018427387904-(bj rec.length:Int):=bz (by omega);have e4:¬(4611686018427387904-(bj rec.length:Int)<m.last):=by omega
 simp only[qI,aAz,aAO,aw,ff,aBA,aAU,af,ag,hlen];refine(AS (by omega)).same ?_;simp only[fm,br,ah,af,aA,g2,aq,aAF,aAA,aAy,av,aw,dq,e1,aCi,ag,aAz,aAO];refine(BH h').same ?_;simp only[ht,aCi,ag,aAz,aAO];refine(IA h' (by omega) h2 (by omega)).same ?_;simp only[fm,br,ah,af,aA,g2,aq,aAF,aAA,aAy,av,aw,dq,hr,aCi,ag,aAz,aAO,dW,e3,e4];show c8 _ _ _;simp only[aJ,aK];generalize hN:bj rec.length=N at*
 refine bK (fun fu vs s=>∃i Di Fi,fu+i=N/\vs=[.ptr r 0,v,I N,I N,I i]/\Kp F st s/\du s a Fi Di/\(∀b∈Fi,b∈F\/st.next<=b)/\Di.dead=false/\Di.waits.length=D.waits.length+i/\D.writes ((List.range N).map (m.nM rec))=Di.writes (((List.range N).drop i).map (m.nM rec))) ?_ (n:=N)
  ⟨0,D,F,rfl,rfl,Kp.refl _ _,hd,fun b hb=> .inl hb,qI,rfl,by simp⟩
 rintro fu vs s k ⟨i,Di,Fi,hi,rfl,hk,TO,Oi,alL,YN,EO⟩ next;have hn:=hk.next;have Pz:=h'.keep hk YR;simp only[aJ,aK]
 by_cases hlt:i<N
 ·have a1:aj .lss none false (I i) (I N) s= .ok (.bool true) s:=by rw[aw,cP,aAJ (by omega)]
  simp only[a1,af,ag,aAY,bt];have k7:Kp [] s (St.new s (.cells [.int .i64 0, .bool false, .ae] 200 false)):=(Kp.refl _ s).new _;have g7:(St.new s (.cells [.int .i64 0, .bool false, .ae] 200 false)).mem.get s.next=some (.cells [.int .i64 0, .bool false, .ae] 200 false):=au _ _;have hn7:(St.new s (.cells [.int .i64 0, .bool false, .ae] 200 false)).next=s.next+1:=rfl;generalize St.new s (.cells [.int .i64 0, .bool false, .ae] 200 false)=s7 at*;have YS:=Pz.keep k7 (by simp);have Wq:=YS.2;have hv7:Sl s7 F v 1 (ai rec):=(hv.mono hk).mono (k7.mono (by simp));have abQ:=hv7.len rec.length (by simp) (by omega);have b1:aj .add none true (I m.last) (.int .i64 1) s7= .ok (I ((m.last+1:Nat):Int)) s7:=by rw[aw,cE,bz (by omega)];rfl
  have b2:aj .add none false (I ((m.last+1:Nat):Int)) (I i) s7= .ok (I ((m.last+1+i:Nat):Int)) s7:=by rw[aw,cE,bz (by omega)];rfl
  have b3:aj .sub none true (I N) (.int .i64 1) s7= .ok (I ((N-1:Nat):Int)) s7:=by rw[aw,dW,bz (by omega)];congr 2;omega
  have b4:aj .eql (some .int) false (I i) (I ((N-1:Nat):Int)) s7= .ok (.bool (decide (i+1=N))) s7:=by
   rw[aw,cz];congr 2;simp only[aBc];omega
  have b5:aj .mul none true (I i) (.int .i64 501) s7= .ok (I ((i*501:Nat):Int)) s7:=by rw[aw,jR,bz (by omega)];rfl
  have b6:aj .add none true (I ((i*501:Nat):Int)) (.int .i64 501) s7= .ok (I ((i*501+501:Nat):Int)) s7:=by rw[aw,cE,bz (by omega)];rfl
  have b7:AW false (I ((i*501+501:Nat):Int)) (I rec.length) s7= .ok (I ((min (i*501+501) rec.length:Nat):Int)) s7:=by
   have e:AW false (I ((i*501+501:Nat):Int)) (I rec.length) s7= .ok (I (if (rec.length:Int)<((i*501+501:Nat):Int)then (rec.length:Int)else ((i*501+501:Nat):Int))) s7:=rfl;rw[e];congr 2;split<;>omega
  have Dw:=Eg (len:=rec.length) (i:=i) (by rw[hN];exact hlt);obtain⟨v2,p1,p2⟩:=hv7.both (n:=rec.length) (by omega) (by simp) (l:=i*501) (h:=min (i*501+501) rec.length) (by omega) (by omega) s7
  have RS:List.take ((min (i*501+501) rec.length-i*501)*1) (List.drop (i*501*1) (ai rec))=ai (cT rec m.last N i).data:=by
   unfold cT ai;rw[aCo,aCo,<-aBZ,<-aCk]
   congr 1
   by_cases hm:i*501+501<=rec.length
   ·rw[aBq hm];congr 1;omega
   ·rw[Nat.min_eq_right (by omega),aAK (by simp),aAK (by simp;omega)]
  rw[RS]at p2;obtain⟨v21,v22,v23⟩:=p2.bG
  have mC:bD [.int .i64 0, .bool false, .ae] [(0,1,I ((m.last+1+i:Nat):Int)),(1,1, .bool (decide (i+1=N))),(2,1,v2)] s7= .ok (.agg [I ((m.last+1+i:Nat):Int), .bool (decide (i+1=N)),v2]) s7:=by
   rw[dN];simp[cF,bp,v21,v23]
  have kG:bp [.int .i64 0, .bool false, .ae] 0 [I ((m.last+1+i:Nat):Int), .bool (decide (i+1=N)),v2]=[I ((m.last+1+i:Nat):Int), .bool (decide (i+1=N)),v2]:=dY _ _ rfl;simp only[br,ah,af,aA,Wq,aq,aAF,aAA,aAy,av,b1,b2,b3,b4,b5,b6,abQ,b7,p1,mC,jt g7,aS,aF,g7,aR,aX,kG];refine⟨⟨rfl,by simp[v22],by simp⟩,⟨trivial,trivial,trivial⟩,trivial, ?_⟩;have k8:Kp [] s (St.set s7 s.next (.cells [I ((m.last+1+i:Nat):Int), .bool (decide (i+1=N)),v2] 200 false)):=k7.set _ (.inr (aAE _)) (by omega);have g8:(St.set s7 s.next (.cells [I ((m.last+1+i:Nat):Int), .bool (decide (i+1=N)),v2] 200 false)).mem.get s.next=some (.cells [I ((m.last+1+i:Nat):Int), .bool (decide (i+1=N)),v2] 200 false):=ao _ _ _;have k78:Kp [s.next] s7 (St.set s7 s.next (.cells [I ((m.last+1+i:Nat):Int), .bool (decide (i+1=N)),v2] 200 false)):=(Kp.refl _ s7).set _ (.inl (by simp)) (by omega);have hn8:(St.set s7 s.next (.cells [I ((m.last+1+i:Nat):Int), .bool (decide (i+1=N)),v2] 200 false)).next=s.next+1:=hn7
  have p8:Sl (St.set s7 s.next (.cells [I ((m.last+1+i:Nat):Int), .bool (decide (i+1=N)),v2] 200 false)) [] v2 1 (ai (cT rec m.last N i).data):=by
   obtain⟨v3,p3,p4⟩:=((hv.mono hk).dM (Y:=[]) (by simp)).both (n:=rec.length) (by omega) (by simp) (l:=i*501) (h:=min (i*501+501) rec.length) (by omega) (by omega) s7;rw[p1]at p3;cases p3;rw[RS]at p4;exact p4.mono k8
  generalize St.set s7 s.next (.cells [I ((m.last+1+i:Nat):Int), .bool (decide (i+1=N)),v2] 200 false)=s8 at*;rw[aQ (n:=3) g8 rfl,af];have Tv:(cT rec m.last N i).data.length<=501:=by unfold cT;simp;omega
  refine(AL (p:=cT rec m.last N i) p8 Tv (by unfold cT;simp;omega)).mono ?_;rintro _ s9 ⟨rfl,k9⟩;have kL:=Piece.pJ (cT rec m.last N i) Tv;have Wg:(ai (cT rec m.last N i).bY).length=512:=by simpa using kL
  have PS:(St.new s9 (.cells (zr 512) 233 false)).mem.get s9.next=some (.cells (zr 512) 233 false):=au _ _;have CK:bp (zr 512) 0 (ai (cT rec m.last N i).bY)=ai (cT rec m.last N i).bY:=dY _ _ (by rw[Wg];exact List.length_replicate.symm);simp only[cG,aS,aF,PS,aR,aX,CK];refine⟨⟨Wg,bB _,by simp⟩, ?_⟩;have hn9:=k9.next;have qy:Kp [] s (St.set (St.new s9 (.cells (zr 512) 233 false)) s9.next (.cells (ai (cT rec m.last N i).bY) 233 false)):=((k8.trans k9 (by simp)).new _).set _ (.inr (by omega)) (by simp);have ajk:Kp [] s9 (St.set (St.new s9 (.cells (zr 512) 233 false)) s9.next (.cells (ai (cT rec m.last N i).bY) 233 false)):=((Kp.refl _ s9).new _).set _ (.inr (aAE _)) (by simp);have g11:(St.set (St.new s9 (.cells (zr 512) 233 false)) s9.next (.cells (ai (cT rec m.last N i).bY) 233 false)).mem.get s9.next=some (.cells (ai (cT rec m.last N i).bY) 233 false):=ao _ _ _;have akC:(St.set (St.new s9 (.cells (zr 512) 233 false)) s9.next (.cells (ai (cT rec m.last N i).bY) 233 false)).next=s9.next+1:=rfl;generalize St.set (St.new s9 (.cells (zr 512) 233 false)) s9.next (.cells (ai (cT rec m.last N i).bY) 233 false)=de at*;have Wr:=Pz.keep qy (by simp);have Ts:=Wr.2;have g8':=(ajk.keep s.next (by omega) (by simp)).trans ((k9.keep s.next (by omega) (by simp)).trans g8);simp only[br,ah,af,aA,Ts,g8',aq,aAF,aAy,av];refine(yl Wr h0 (by omega) (n:=m.last+1+i) (by omega)).same ?_;have zM:bR 512 1 (.ptr s9.next 0) none none de= .ok (.slice s9.next 0 512 512 0) de:=rfl;simp only[zM,af,Ts,aq,aAy,av];have abh:Sl de Fi (.slice s9.next 0 512 512 0) 1 (ai (cT rec m.last N i).bY):= .inr ⟨s9.next,0,512,512,0,rfl,by rw[Wg],⟨aAE _, .inl rfl⟩, .inr ⟨fun h=>by have:=TO.lt _ h;omega,by omega,_,_,_,g11,by omega,by rw[aBg,aAK (by omega)]⟩⟩;refine(uA (TO.keep qy (by simp)) (qy.fresh (hk.fresh hf)) (by omega) abh kL).mono ?_;rintro _ ep ⟨rfl,qG,F',acE,qC⟩;have avq:=qG.next;have HK:Kp F st ep:=(hk.trans qy (by simp)).trans qG Oi
  have KG:∀b∈F',b∈F\/st.next<=b:=fun b hb=>(qC b hb).elim (Oi b) fun h=> .inr (by have:=qy.next;omega);have ajZ:r∉Fi:=fun h=>(Oi r h).elim YR fun h2=>by have:=h'.1;omega
  have akb:=Wr.keep qG ajZ
  have Xk:(List.range N).drop i=i::(List.range N).drop (i+1):=by
   rw[aAS (by simpa using hlt)];simp
  have yS:m.nM rec i=(m.place (m.last+1+i),(cT rec m.last N i).bY):=by unfold RingM.nM;rw[hN]
  rw[Xk,aBh,yS]at EO;simp only[aT.writes]at EO;refine⟨⟨⟨trivial,trivial⟩,trivial,trivial⟩,trivial, ?_⟩
  by_cases hz:(Di.write ((m.place (m.last+1+i):Nat):Int) (cT rec m.last N i).bY).1=0
  ·rw[aAI hz]at EO;obtain⟨z1,z2,z3⟩:=xN hz;have a3:∀s,ju .add .i64 (i:Int) .i64 1 s= .ok (I ((i+1:Nat):Int)) s:=fun s=>by rw[cE,bz (by omega)];rfl
   simp only[hz,aw,ff,aBA,aAU,af,ag,aAz,aAO,a3];exact next (fu-1) _ _ (by omega) ⟨i+1,_,F',by omega,rfl,HK,acE,KG,by rw[z1];exact alL,by rw[z2];simp;omega,EO⟩
  ·rw[aAH hz]at EO;simp only[aw,ff,hz,aCi,aAT,af,ag,aAY];refine⟨_,EO,by rw[aAH hz],HK.mono (fun q hq=> .inl (by simp[hq])),⟨F',acE,KG⟩, ?_⟩;rw[aAH hz];exact akb
 ·have a1:aj .lss none false (I i) (I N) s= .ok (.bool false) s:=by rw[aw,cP,aAB (by omega)]
  have hiN:i=N:=by omega
  subst hiN;have ajX:=Pz.2;simp only[a1,af,ag,aAz,aAO];have NR:(List.range i).drop i=[]:=aBj (by simp);rw[NR]at EO;have a2:aj .add none false (I m.last) (I i) s= .ok (I ((m.last+i:Nat):Int)) s:=by rw[aw,cE,bz (by omega)];rfl
  have c1:bp [CV.ptr a 0,I m.first,I m.count,I m.base,I m.last,I m.top] 4 [I ((m.last+i:Nat):Int)]=[CV.ptr a 0,I m.first,I m.count,I m.base,I ((m.last+i:Nat):Int),I m.top]:=rfl;have c2:bp [CV.ptr a 0,I m.first,I m.count,I m.base,I ((m.last+i:Nat):Int),I m.top] 5 [I ((m.last+i:Nat):Int)]=[CV.ptr a 0,I m.first,I m.count,I m.base,I ((m.last+i:Nat):Int),I ((m.last+i:Nat):Int)]:=rfl;simp only[br,ah,af,aA,ajX,aq,aAF,aAA,aAy,av,a2,lz,aF,aR,iC,c1,ao,c2,set_set];refine⟨⟨rfl,rfl,by simp⟩,⟨rfl,rfl,by simp⟩,(0,Di),EO,rfl,(hk.mono fun q hq=> .inl (by simp[hq])).set _ (.inl (by simp)) Pz.1,⟨Fi,TO.keep (X:=[r]) ((Kp.refl _ s).set _ (.inl (by simp)) Pz.1) (fun b hb=>by simp;exact fun e=>(Oi r (e▸hb)).elim YR fun h2=>by have:=h'.1;omega),Oi⟩, ?_⟩;exact⟨Pz.1,ao _ _ _⟩
end
