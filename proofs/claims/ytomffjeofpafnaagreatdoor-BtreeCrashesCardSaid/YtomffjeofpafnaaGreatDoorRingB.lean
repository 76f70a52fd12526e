import Derived.Test.YtomffjeofpafnaaGreatDoorRingA
namespace Lim
open Go
noncomputable section
set_option linter.defProp false
set_option maxRecDepth 100000
section
variable {G:List Nat}{vs:List CV}{L:List (List UInt8)}
section
variable {st st':St}
def sC {f:CV}{args:List CV}{Q Q':CV->St->Prop}(h:fG R f args st Q)(hq:∀v s,Q v s->Q' v s):fG R f args st Q':=by
 unfold fG at*
 split at h
 .exact R.mono h hq
 .exact h.elim
def lV (st:St)(G:List Nat):List CV->List (List UInt8)->Prop
 |[],[]=>True
 |v::vs,l::ls=>lB st G v 1 (aj l)/\lV st G vs ls
 |_,_=>False
def lV.keep {X:List Nat}(h:lV st G vs L)(hk:Kp X st st')(hx:∀b∈G,b∉X):lV st' G vs L:=by
 induction vs generalizing L with
 |nil=>cases L with|nil=>trivial|cons l L=>exact h
 |cons v vs ih=>cases L with|nil=>exact h|cons l L=>exact⟨h.1.keep hk hx,ih h.2⟩
def lV.mono {H:List Nat}(h:lV st G vs L)(hg:∀b∈G,b∈H):lV st H vs L:=by
 induction vs generalizing L with
 |nil=>cases L with|nil=>trivial|cons l L=>exact h
 |cons v vs ih=>cases L with|nil=>exact h|cons l L=>exact⟨h.1.mono hg,ih h.2⟩
def lV.snoc {v:CV}{l:List UInt8}(h:lV st G vs L)(hv:lB st G v 1 (aj l)):lV st G (vs++[v]) (L++[l]):=by
 induction vs generalizing L with
 |nil=>cases L with|nil=>exact⟨hv,adu⟩|cons l L=>exact h.elim
 |cons v vs ih=>cases L with|nil=>exact h.elim|cons l L=>exact⟨h.1,ih h.2⟩
def lV.len (h:lV st G vs L):vs.length=L.length:=by
 induction vs generalizing L with
 |nil=>cases L with|nil=>rfl|cons l L=>exact h.elim
 |cons v vs ih=>cases L with|nil=>exact h.elim|cons l L=>simp[ih h.2]
def lV.one (h:lV st G vs L):aU vs=true:=by
 induction vs generalizing L with
 |nil=>rfl
 |cons v vs ih=>cases L with|nil=>exact h.elim|cons l L=>rw[ub,h.1.nil.bD.2.1,ih h.2];rfl
def ie (P:Nat->Piece)(count:Nat):Nat->Nat->List UInt8->List (List UInt8)->Nat->List (List UInt8)×Nat
 |0,_,_,out,last=>(out,last)
 |f+1,n,now,out,last=>if (P ((n+1)%count)).n=n+1 then
   (if (P ((n+1)%count)).last=true then ie P count f (n+1) [] (out++[now++(P ((n+1)%count)).data]) (n+1)else ie P count f (n+1) (now++(P ((n+1)%count)).data) out last)
  else (out,last)
def pq (st:St)(x:CV)(L:List (List UInt8))(Fo G:List Nat):Prop:=∃vs,Own st x 1 93 vs Fo/\lV st G vs L/\(∀b∈Fo,b<st.nx)/\(∀b∈G,b<st.nx)/\∀b∈Fo,b∉G
structure Z4 (jO:St)(r a c q:Nat)(F:List Nat)(D:aP)(P:Nat->Piece)(m:RingM)(f:CV)(fuel:Nat)(vs:List CV)(s:St)(n:Nat)(now:List UInt8)(out:List (List UInt8))(last:Nat)(xo xn:CV)(Fo Fn G:List Nat):Prop where
 vs:vs=[.ptr r 0,xo,xn,f]
 fu:n+fuel=m.base+m.count
 lo:m.base<=n
 kp:Kp [r] jO s
 ring:fI s r a {m with last:=last}
 wh:cG s a F D
 nx:qJ s f c q r n
 SD:pq s xo out Fo G
 own:Own s xn 1 5 (aj now) Fn
 ltn:∀b∈Fn,b<s.nx
 ge:∀b,b∈Fo\/b∈Fn\/b∈G->jO.nx<=b/\b≠c/\b≠q
 Wd:∀b∈Fn,b∉Fo/\b∉G
 szn:now.length<=501*n
 szo:out.length<=n
 tgt:ie P m.count fuel n now out last=ie P m.count m.count m.base [] [] m.last
def Im {r a:Nat}{m:RingM}{F:List Nat}{D:aP}{P:Nat->Piece}(hf:eM st)(h:fI st r a m)(hd:cG st a F D)(hr:r∉F)(nZ:D.dead=false)(hp:sJ D m P)(hb:m.base<=1000000000):
 R 115 [.ptr r 0] st λx st'=>∃xo Fo G,x=.tuple [xo,I 0]/\Kp [r] st st'/\fI st' r a {m with last:=(ie P m.count m.count m.base [] [] m.last).2}/\pq st' xo (ie P m.count m.count m.base [] [] m.last).1 Fo G/\∀b,b∈Fo\/b∈G->st.nx<=b:=by
 refine bN ?_;rw[ajZ];show R 154 [.ptr r 0] st _;refine(It h).mono ?_;rintro f s1 ⟨k1,c,q,Bd,hc,hq⟩;simp only[aH,aI];refine bK (λfuel vs s=>∃n now out last xo xn Fo Fn G,Z4 st r a c q F D P m f fuel vs s n now out last xo xn Fo Fn G) ?_ (n:=m.count) ⟨m.base,[],[],m.last,.ae,.ae,[],[],[],rfl,rfl,aDt _,k1.mono rq,h.keep k1 rq,hd.keep k1 rq,Bd,⟨[],.inl ⟨rfl,rfl,rfl⟩,adu,rq,rq,rq⟩,.inl ⟨rfl,rfl,rfl⟩,rq,rq,rq,rq,rq,rfl⟩;rintro fuel vs s k ⟨n,now,out,last,xo,xn,Fo,Fn,G,I⟩ next;obtain⟨rfl,i1,i2,i3,i4,i5,i6,i7,i8,i9,BZ,i11,i12,i13,O9⟩:=I;have Zp:∀s:St,True:=λ_=>trivial;have jW:=i3.nx;have IU:=h.1;have hp':sJ D {m with last:=last} P:=⟨hp.pos,hp.fits,hp.iv,hp.base,hp.cur⟩;simp only[aH,aI];obtain⟨vsr,j1,j2,j3,j4,j5⟩:=i7;have YX:∀(s':St),Kp [c] s s'->Kp [r] st s':=λs' hk=>i3.trans hk (by simp;right;exact hc)
 by_cases Aa:fuel=0
 .subst Aa;refine sC (OS i4 hp' i6 (by simpa using i1)) ?_;rintro _ s3 ⟨rfl,k3⟩;have g4:(St.new s3 (.cells [.int .i64 0,.bool false,.ae] 200 false)).m.g s3.nx=some (.cells [.int .i64 0,.bool false,.ae] 200 false):=aw _ _;have kk:∀blk,Kp [] s (St.set (St.new s3 (.cells [.int .i64 0,.bool false,.ae] 200 false)) s3.nx blk):=λblk=>(k3.new _).set _ (.inr k3.nx) rq;simp only[aD,aG,af,cE,aT,aF,g4,aS,aV,ay,fq,aEq,aDJ,aL,aDp,aDE,aDI,bp,cN,aJ,ag,aDQ];refine⟨⟨rfl,rfl,wI⟩,xo,Fo,G,rfl,i3.trans (kk _) rq,?_,?_,λb hb=>(BZ b (by rcases hb with h|h<;>simp[h])).1⟩
  .rw[<-O9];exact i4.keep (kk _) rq
  .rw[<-O9];exact⟨vsr,j1.keep (kk _) λb hb=>⟨j3 b hb,rq⟩,j2.keep (kk _) rq,λb hb=>aDM (j3 b hb) (kk (.map [] 0)).nx,λb hb=>aDM (j4 b hb) (kk (.map [] 0)).nx,j5⟩
 .obtain⟨fu,rfl⟩:∃fu,fuel=fu+1:=⟨fuel-1,pX⟩;have hrc:r≠c:=by omega
  have hrq:r≠q:=pX
  have hcF:c∉F:=λh=>by have:=hd.lt c h;omega
  refine sC (S8 (i3.fresh hf) i4 i5 hr nZ hp' i6 AI (by simpa using i2) AI hrc hrq hcF) ?_;rintro _ s3 ⟨_,rfl,⟨v,Fv,rfl,k3,ho,Mj⟩,amX⟩;have e0:RingM.is {m with last:=last} P (n+1)↔(P ((n+1)%m.count)).n=n+1:=Iff.rfl;rw[show decide (RingM.is {m with last:=last} P (n+1))=decide ((P ((n+1)%m.count)).n=n+1)from decide_eq_decide.2 e0];simp only[ie]at O9;generalize hP:P ((n+1)%m.count)=p at*;have g4:(St.new s3 (.cells [.int .i64 0,.bool false,.ae] 200 false)).m.g s3.nx=some (.cells [.int .i64 0,.bool false,.ae] 200 false):=aw _ _;have ko:bo [.int .i64 0,.bool false,.ae] 0 [I p.n,.bool p.last,v]=[I p.n,.bool p.last,v]:=dZ _ _ rfl;obtain⟨o1,o2⟩:=ho.ck;have k5:Kp [c] s (St.set (St.new s3 (.cells [.int .i64 0,.bool false,.ae] 200 false)) s3.nx (.cells [I p.n,.bool p.last,v] 200 false)):=(k3.new _).set _ (.inr k3.nx) rq;have M0:Kp [] s3 (St.set (St.new s3 (.cells [.int .i64 0,.bool false,.ae] 200 false)) s3.nx (.cells [I p.n,.bool p.last,v] 200 false)):=((Kp.refl _ s3).new _).set _ (.inr (aDt _)) rq;have g5:(St.set (St.new s3 (.cells [.int .i64 0,.bool false,.ae] 200 false)) s3.nx (.cells [I p.n,.bool p.last,v] 200 false)).m.g s3.nx=some (.cells [I p.n,.bool p.last,v] 200 false):=aq _ _ _;have hn5:(St.set (St.new s3 (.cells [.int .i64 0,.bool false,.ae] 200 false)) s3.nx (.cells [I p.n,.bool p.last,v] 200 false)).nx=s3.nx+1:=rfl;simp only[aD,aG,af,cE,aT,aF,g4,aS,aV,ko,ay,fq,aEq,aDJ,aL,aDp,aDE,aDI,bp,cN,aJ,ag];refine⟨⟨rfl,aap,wI⟩,?_⟩;generalize St.set (St.new s3 (.cells [.int .i64 0,.bool false,.ae] 200 false)) s3.nx (.cells [I p.n,.bool p.last,v] 200 false)=s5 at*;have hn3:=k3.nx;have nc:∀b,b∈Fo\/b∈Fn\/b∈G->b∉[c]:=λb hb=>by simpa using (BZ b hb).2.1
  have hr5:=i4.keep k5 (by simpa using hrc);have hd5:=i5.keep k5 (λb hb=>by simp;exact λe=>hcF (e▸hb));have hx5:=amX.keep M0 rq rq;have jo5:=j1.keep k5 λb hb=>⟨j3 b hb,nc b (.inl hb)⟩;have js5:=j2.keep k5 λb hb=>nc b (.inr (.inr hb));have ow5:=i8.keep k5 λb hb=>⟨i9 b hb,nc b (.inr (.inl hb))⟩;have ov5:=ho.keep M0 λb hb=>⟨(Mj b hb).2,rq⟩
  by_cases his:p.n=n+1
  .rw[aDz his,aDJ,aDv wI];rw[aDy his]at O9
   have asY:p.data.length<=501:=by
    obtain⟨_,u⟩:=hp.cur _ (aFM (n+1) hp.pos);rw[hP]at u;exact u.2.1
   have hvF:∀b∈Fv,s.nx<=b/\b<s5.nx/\b≠s3.nx:=λb hb=>by have:=Mj b hb;omega
   have hsv:Sl s5 [] v 1 (aj p.data):=ov5.sl λb hb=>⟨rq,(hvF b hb).2.1⟩;obtain⟨nn,Tx,Ba⟩:=hsv.src [(.int .u8 0)];simp at Tx;subst Tx;have q1:=hp.fits;have q2:=hp.iv;obtain⟨Nm,s6,Fn',a1,a2,a3,a4⟩:=ow5.append (n:=p.data.length) (bytes:=1) (T:=aj p.data) pX rq (bC _) (λb hb=>by have:=i9 b hb;omega) AI;have hn6:=a3.nx;have ns3:s3.nx∉Fn:=λh=>by have:=i9 _ h;omega
   have g6:=(a3.keep s3.nx pX ns3).trans g5;simp only[fl,ah,af,aC,g5,ar,aDx,aDq,aDo,az,Ba,a1,aT,g6,ag];have GJ:∀b∈Fn',(b∈Fn\/s5.nx<=b)/\b<s6.nx:=λb hb=>⟨(a4 b hb).1.imp id λh=>pX,(a4 b hb).2⟩;have nF:∀b,b∈Fo\/b∈G->b∉Fn:=λb hb h=>(hb.elim (i11 b h).1 (i11 b h).2);have lF:∀b,b∈Fo\/b∈G->b<s5.nx:=λb hb=>by rcases hb with h|h;have:=j3 b h;omega;have:=j4 b h;omega
   have nr:r∉Fn:=λh=>by have:=(BZ r (.inr (.inl h))).1;omega
   have nc':c∉Fn:=λh=>(BZ c (.inr (.inl h))).2.1 rfl;have nq':q∉Fn:=λh=>(BZ q (.inr (.inl h))).2.2 rfl;have hr6:=hr5.keep a3 nr;have yB:=hd5.keep a3 (λb hb h=>by have:=(BZ b (.inr (.inl h))).1;have:=hd.lt b hb;omega);have hx6:=hx5.keep a3 nc' nq';have jo6:=jo5.keep a3 λb hb=>⟨lF b (.inl hb),nF b (.inl hb)⟩;have js6:=js5.keep a3 λb hb=>nF b (.inr hb);have DS:=(YX s5 k5).trans a3 λb hb=>.inr (BZ b (.inr (.inl hb))).1
   have YZ:∀b,b∈Fo\/b∈Fn'\/b∈G->st.nx<=b/\b≠c/\b≠q:=λb hb=>by
    rcases hb with hb|hb|hb
    .exact BZ b (.inl hb)
    .rcases(GJ b hb).1 with h|h
     .exact BZ b (.inr (.inl h))
     .have:=i6.2.1;have:=i6.2.2.1;omega
    .exact BZ b (.inr (.inr hb))
   have PO:∀b∈Fn',b∉Fo/\b∉G:=λb hb=>by
    rcases(GJ b hb).1 with h|h
    .exact i11 b h
    .exact⟨λh2=>by have:=lF b (.inl h2);omega,λh2=>by have:=lF b (.inr h2);omega⟩
   by_cases hl:p.last=true
   .rw[aDy hl];rw[aDy hl]at O9;have TN:=DS.fresh hf;obtain⟨b1,b2⟩:=a2.ck;have b3:=(a2.sl (X:=[]) λb hb=>⟨rq,(GJ b hb).2⟩).bD.1
    have zZ:gf [(0,1,Nm)] (cJ 1 [CV.ae])=some [Nm]:=by
     rw[cq,aDy ⟨⟨by rw[b2];rfl,b3⟩,by rw[b2];exact aDt _⟩,kY,b2];rfl
    have jd:(St.skip s6).m.g s6.nx=none:=TN _ (aDt _);rw[bA,jw jd zZ,aT];have k7:Kp [] s6 (St.set (St.skip s6) s6.nx (.cells [Nm] 93 false)):=((Kp.refl _ s6).skip).set _ (.inr (aDt _)) rq;have g77:(St.set (St.skip s6) s6.nx (.cells [Nm] 93 false)).m.g s6.nx=some (.cells [Nm] 93 false):=aq _ _ _;have hn7:(St.set (St.skip s6) s6.nx (.cells [Nm] 93 false)).nx=s6.nx+1:=rfl;generalize St.set (St.skip s6) s6.nx (.cells [Nm] 93 false)=s7 at*;have jo7:=jo6.keep k7 λb hb=>⟨by have:=lF b (.inl hb);omega,rq⟩;have js7:=js6.keep k7 rq
    have sn7:lB s7 Fn' Nm 1 (aj (now++p.data)):=by
     have:=a2.keep k7 λb hb=>⟨(GJ b hb).2,rq⟩;rw[bF];exact this.aca λb hb=>by have:=(GJ b hb).2;omega
    have hvl:=js7.len;rw[Fx (k:=1) (n:=1) g77 pX rfl];obtain⟨xo',s8,Fo',c1,c2,c3,c4⟩:=jo7.append (n:=1) (bytes:=24) (T:=[Nm]) pX rfl (by rw[ub,b1];rfl) (λb hb=>by have:=lF b (.inl hb);omega) AI;have hn8:=c3.nx;have als:s3.nx∉Fo:=λh=>by have:=j3 _ h;omega
    have nro:r∉Fo:=λh=>by have:=(BZ r (.inl h)).1;omega
    have nco:c∉Fo:=λh=>(BZ c (.inl h)).2.1 rfl;have nqo:q∉Fo:=λh=>(BZ q (.inl h)).2.2 rfl;have g7:=(k7.keep s3.nx pX rq).trans g6;have g8:=(c3.keep s3.nx pX als).trans g7;have hr8:=(hr6.keep k7 rq).keep c3 nro;have amC:=hr8.2;have Ex:=(yB.keep k7 rq).keep c3 (λb hb h=>by have:=(BZ b (.inl h)).1;have:=hd.lt b hb;omega);have hx8:=(hx6.keep k7 rq rq).keep c3 nco nqo;have hk8:=(DS.trans k7 rq).trans c3 λb hb=>.inr (BZ b (.inl hb)).1;have js8:=js7.keep c3 λb hb h=>j5 b h hb;have sn8:=sn7.keep c3 λb hb h=>(PO b hb).1 h;have P8:∀b∈Fo',(b∈Fo\/s7.nx<=b)/\b<s8.nx:=λb hb=>⟨(c4 b hb).1.imp id λh=>pX,(c4 b hb).2⟩;have Yw:bo [CV.ptr a 0,I m.first,I m.count,I m.base,I last,I m.top] 4 [I p.n]=[CV.ptr a 0,I m.first,I m.count,I m.base,I p.n,I m.top]:=rfl;simp only[c1,aT,ah,af,g7,g8,ar,aDx,aDo,az,br,aF,amC,aS,iL,Yw];refine⟨⟨rfl,rfl,rq⟩,⟨⟨adu,adu,adu⟩,adu⟩,⟨adu,adu⟩,?_⟩;have adK:=hr8.1;have eS:∀b,b≠r->(St.set s8 r (.cells [.ptr a 0,I m.first,I m.count,I m.base,I p.n,I m.top] 198 false)).m.g b=s8.m.g b:=λb hb=>al _ _ _ _ hb;have k9:Kp [r] s8 (St.set s8 r (.cells [.ptr a 0,I m.first,I m.count,I m.base,I p.n,I m.top] 198 false)):=(Kp.refl _ s8).set _ (.inl rq) adK;have ner:∀b,st.nx<=b->b∉[r]:=λb hb=>AI
    refine next fu _ _ pX ⟨n+1,[],out++[now++p.data],n+1,xo',.ae,Fo',[],Fn'++G,rfl,pX,pX,hk8.trans k9 rq,⟨adK,by rw[aq,his]⟩,Ex.keep k9 (λb hb=>by simp;exact λe=>hr (e▸hb)),hx8.keep k9 (by simpa using aEr hrc) (by simpa using aEr hrq),⟨vsr++[Nm],c2.keep k9 λb hb=>⟨(P8 b hb).2,ner b ?_⟩,?_,λb hb=>(P8 b hb).2,?_,?_⟩,.inl ⟨rfl,rfl,rfl⟩,rq,?_,rq,rq,AI,O9⟩
    .rcases(P8 b hb).1 with h|h
     .exact(BZ b (.inl h)).1
     .have:=DS.nx;omega
    .refine lV.snoc ((js8.keep k9 λb hb=>ner b (BZ b (.inr (.inr hb))).1).mono λb hb=>Ww) ((sn8.keep k9 λb hb=>ner b ?_).mono λb hb=>Ww);exact(YZ b (.inr (.inl hb))).1
    .intro b hb;show b<s8.nx;rcases aDB.1 hb with h|h
     .have:=(GJ b h).2;omega
     .have:=lF b (.inr h);omega
    .intro b hb h2;rcases(P8 b hb).1 with h|h
     .rcases aDB.1 h2 with h3|h3
      .exact(PO b h3).1 h
      .exact j5 b h h3
     .rcases aDB.1 h2 with h3|h3
      .have:=(GJ b h3).2;omega
      .have:=lF b (.inr h3);omega
    .intro b hb;rcases hb with hb|hb|hb
     .rcases(P8 b hb).1 with h|h
      .exact BZ b (.inl h)
      .have:=DS.nx;have:=i6.2.1;have:=i6.2.2.1;omega
     .simp at hb
     .rcases aDB.1 hb with h|h
      .exact YZ b (.inr (.inl h))
      .exact BZ b (.inr (.inr h))
   .rw[aDv hl];rw[aDv hl]at O9;refine next fu _ _ pX ⟨n+1,now++p.data,out,last,xo,Nm,Fo,Fn',G,rfl,pX,pX,DS,hr6,yB,hx6,⟨vsr,jo6,js6,λb hb=>by have:=j3 b hb;omega,λb hb=>by have:=j4 b hb;omega,j5⟩,by rw[bF];exact a2,λb hb=>(GJ b hb).2,YZ,PO,AI,pX,O9⟩
  .rw[aDr his,aDI,aDy rfl];rw[aDv his]at O9;refine⟨xo,Fo,G,rfl,YX s5 k5,?_,?_,λb hb=>(BZ b (by rcases hb with h|h<;>simp[h])).1⟩
   .rw[<-O9];exact hr5
   .rw[<-O9];exact⟨vsr,jo5,js5,λb hb=>by have:=j3 b hb;omega,λb hb=>by have:=j4 b hb;omega,j5⟩
end
end
section
variable {st st':St}
def jT (P:Nat->Piece)(count base:Nat):Nat->Nat
 |0=>base
 |i+1=>if (P i).n≠0/\(P i).n%count=i then max (jT P count base i) (P i).n else jT P count base i
def yr (P:Nat->Piece)(count base B:Nat)(hb:base<=B)(h:∀j,j<count->(P j).n<=B):∀i,i<=count->jT P count base i<=B:=by
 intro i
 induction i with
 |zero=>intro _;exact hb
 |succ i ih=>
  intro hi;simp only[jT];have:=ih pX;have:=h i pX
  split<;>omega
def RingM.opened (first count base:Nat)(P:Nat->Piece):RingM:=⟨first,count,base,(ie P count count base [] [] base).2,jT P count base count⟩
def zf {a:Nat}{F:List Nat}{D:aP}{P:Nat->Piece}{first count base:Nat}(hf:eM st)(hd:cG st a F D)(nZ:D.dead=false)(hp:sJ D ⟨first,count,base,base,base⟩ P)(hb:base<=1000000000):
 R 69 [.ptr a 0,I first,I count,I base] st λx st'=>∃r xo Fo G,x=.tuple [.ptr r 0,xo,I 0]/\Kp [] st st'/\fI st' r a (RingM.opened first count base P)/\pq st' xo (ie P count count base [] [] base).1 Fo G/\(∀b,b∈Fo\/b∈G->st.nx<=b)/\st.nx<=r:=by
 refine bN ?_;rw[w69];have q0:0<count:=hp.pos;have q1:first+count<=D.ao.length:=hp.fits
 have q2:=hp.iv;simp only[c8,af,ag,aDp,aDE];refine(wY hd).same ?_;have e1:¬(first:Int)<0:=pX
 have e2:¬(count:Int)<1:=pX
 have e3:¬(D.ao.length:Int)<count:=pX
 have e4:IntKind.i64.wrap ((D.ao.length:Int)-count)=(D.ao.length:Int)-count:=bB pX;have e5:¬((D.ao.length:Int)-count<first):=pX
 have e6:¬(base:Int)<0:=pX
 have e7:¬(4611686018427387904:Int)<base:=pX
 have mR:bu [.bk,.int .i64 0,.int .i64 0,.int .i64 0,.int .i64 0,.int .i64 0] [(0,1,.ptr a 0),(1,1,I first),(2,1,I count),(3,1,I base),(4,1,I base),(5,1,I base)] st=.ok (.agg [.ptr a 0,I first,I count,I base,I base,I base]) st:=by
  rw[dw];simp[cq,bo]
 simp only[ay,cY,dx,dX,af,e1,e2,e3,e4,e5,e6,e7,aEY,aL,aDp,aDE,aDI,bp,aJ,ag,mR,bW,aV];refine⟨rfl,?_⟩;show db _ _ _;simp only[aH,aI];refine bK (λfu vs s=>∃i,fu+i=count/\vs=[I first,.ptr st.nx 0,I count,I i]/\Kp [] st s/\fI s st.nx a ⟨first,count,base,base,jT P count base i⟩) ?_ (n:=count) ⟨0,rfl,rfl,(Kp.refl _ st).new _,rq,aw _ _⟩;rintro fu vs s k ⟨i,hi,rfl,hk,hr⟩ next;have hn:=hk.nx;have uP:=hd.keep hk rq;have hrF:st.nx∉F:=λh=>by have:=hd.lt _ h;omega
 have hle:=yr P count base 4611686018427387904 pX (λj hj=>(hp.cur j hj).2.1);simp only[aH,aI]
 by_cases hc:i<count
 .have oZ:(i:Int)<count:=by omega
  have a1:ai .lss none false (I i) (I count) s=.ok (.bool true) s:=by rw[ay,cY,aDz oZ]
  have a2:ai .add none false (I first) (I i) s=.ok (I ((first+i:Nat):Int)) s:=Sa
  simp only[a1,a2,af,ag,aDQ];obtain⟨u1,u2⟩:=hp.cur i hc;refine(E5 (hk.fresh hf) hr uP hrF nZ q0 AI (at_:=first+i) pX u2 u1).mono ?_;rintro _ s5 ⟨_,rfl,v,rfl,Fv,k5,ho,Mj⟩;have hn5:=k5.nx;obtain⟨o1,o2⟩:=ho.ck;have IZ:(RingM.place ⟨first,count,base,base,jT P count base i⟩ (P i).n=first+i)↔(P i).n%count=i:=by unfold RingM.place;simp
  have g4:(St.new s5 (.cells [.int .i64 0,.bool false,.ae] 200 false)).m.g s5.nx=some (.cells [.int .i64 0,.bool false,.ae] 200 false):=aw _ _;have ko:bo [.int .i64 0,.bool false,.ae] 0 [I (P i).n,.bool (P i).last,v]=[I (P i).n,.bool (P i).last,v]:=dZ _ _ rfl;have k7:Kp [] s (St.set (St.new s5 (.cells [.int .i64 0,.bool false,.ae] 200 false)) s5.nx (.cells [I (P i).n,.bool (P i).last,v] 200 false)):=(k5.new _).set _ (.inr hn5) rq;have g7:(St.set (St.new s5 (.cells [.int .i64 0,.bool false,.ae] 200 false)) s5.nx (.cells [I (P i).n,.bool (P i).last,v] 200 false)).m.g s5.nx=some (.cells [I (P i).n,.bool (P i).last,v] 200 false):=aq _ _ _;have hn7:(St.set (St.new s5 (.cells [.int .i64 0,.bool false,.ae] 200 false)) s5.nx (.cells [I (P i).n,.bool (P i).last,v] 200 false)).nx=s5.nx+1:=rfl;simp only[aD,aG,af,cE,aT,aF,g4,aS,aV,ko,ay,fq,aEq,aDJ,aDp,aDE,ag];refine⟨⟨rfl,aap,wI⟩,?_⟩;generalize St.set (St.new s5 (.cells [.int .i64 0,.bool false,.ae] 200 false)) s5.nx (.cells [I (P i).n,.bool (P i).last,v] 200 false)=s7 at*;have hr7:=hr.keep k7 rq;have Ys:=hr7.2;have a3:∀s,jK .add .i64 (i:Int) .i64 1 s=.ok (I ((i+1:Nat):Int)) s:=λs=>by rw[cI,bB pX];rfl
  have aon:decide ((P i).n≠0/\RingM.place ⟨first,count,base,base,jT P count base i⟩ (P i).n=first+i)=decide ((P i).n≠0/\(P i).n%count=i):=decide_eq_decide.2 (and_congr_right λ_=>IZ);rw[aon]
  by_cases hq:(P i).n≠0/\(P i).n%count=i
  .rw[aDz hq,aDy rfl]
   have TA:BJ true (I (jT P count base i)) (I (P i).n) s7=.ok (I ((jT P count base (i+1):Nat):Int)) s7:=by
    have e:BJ true (I (jT P count base i)) (I (P i).n) s7=.ok (I (if (jT P count base i:Int)<(P i).n then (P i).n else jT P count base i)) s7:=rfl;rw[e];simp only[jT];rw[aDy hq]
    congr 2
    split<;>omega
   have Yw:bo [CV.ptr a 0,I first,I count,I base,I base,I (jT P count base i)] 5 [I ((jT P count base (i+1):Nat):Int)]=[CV.ptr a 0,I first,I count,I base,I base,I ((jT P count base (i+1):Nat):Int)]:=rfl;simp only[bA,br,ah,af,aC,Ys,g7,ar,aDx,aDq,aDo,az,TA,aF,aS,iL,Yw,a3];refine⟨⟨rfl,rfl,rq⟩,⟨adu,adu,adu⟩,adu,?_⟩;exact next (fu-1) _ _ pX ⟨i+1,pX,rfl,(hk.trans k7 rq).set _ (.inr (aDt _)) hr7.1,hr7.1,aq _ _ _⟩
  .rw[aDr hq,aDv wI];simp only[a3,af];refine next (fu-1) _ _ pX ⟨i+1,pX,rfl,hk.trans k7 rq,?_⟩;have e:jT P count base (i+1)=jT P count base i:=by simp only[jT];rw[aDv hq]
   rw[e];exact hr7
 .have oZ:¬(i:Int)<count:=by omega
  have hic:i=count:=pX
  have a1:ai .lss none false (I i) (I count) s=.ok (.bool false) s:=by rw[ay,cY,aDr oZ]
  simp only[a1,af,ag,aDp,aDE];rw[hic]at hr;refine(Im (hk.fresh hf) hr uP hrF nZ ⟨hp.pos,hp.fits,hp.iv,hp.base,hp.cur⟩ hb).mono ?_;rintro _ s9 ⟨xo,Fo,G,rfl,k9,r9,akM,ge9⟩;simp only[aD,aG,af,ay,fq,aEq,aDJ,aDp,aDE,ag];exact⟨st.nx,xo,Fo,G,rfl,hk.trans k9 rq,r9,akM,λb hb=>aEB hn (ge9 b hb),aDt _⟩
end
section
variable {D:aP}{r a:Nat}{m:RingM}{F:List Nat}{v:CV}{rec:List UInt8}
section
variable {st st':St}
def aP.writes (D:aP):List (Nat×iJ)->Int×aP
 |[]=>(0,D)
 |w::r=>if (D.write w.1 w.2).1=0 then (D.write w.1 w.2).2.writes r else D.write w.1 w.2
def cB (rec:List UInt8)(last n i:Nat):Piece:=⟨last+1+i,decide (i+1=n),(rec.drop (i*501)).take 501⟩
def RingM.rf (m:RingM)(rec:List UInt8)(i:Nat):Nat×iJ:=(m.place (m.last+1+i),(cB rec m.last (aY rec.length) i).bT)
def yM {i:Int}{s:iJ}(h:(D.write i s).1=0):(D.write i s).2.dead=D.dead/\(D.write i s).2.waits=D.waits++[(i.toNat,s)]/\(D.write i s).2.ao=D.ao:=by
 unfold aP.write at*
 by_cases h1:D.dead=true
 .rw[aDy h1]at h;cases h
 .rw[aDv h1]at h⊢
  by_cases h2:i<0\/(D.ao.length:Int)<=i\/s.length≠512
  .rw[aDy h2]at h;cases h
  .rw[aDv h2]at h⊢
   by_cases h3:D.out
   .rw[aDy h3]at h;cases h
   .rw[aDv h3];exact⟨rfl,rfl,rfl⟩
def Fm {len i:Nat}(h:i<aY len):i*501<=len:=by
 unfold aY at h
 split at h
 .omega
 .omega
def Hg {X:List Nat}(h:fI st r a m)(hd:cG st a F D)(nZ:D.dead=false)(hv:Sl st X v 1 (aj rec))(hl:rec.length<=1000000000)
 (h1:m.count<=1000000) (h2:m.base<=4611686018427387904) (h3:m.last<=4611686018427387904) (hc:aY rec.length<=m.count) (ht:¬m.last<m.top) (hr:m.room<aY rec.length):R 131 [.ptr r 0,v] st λx st'=>x=I 3/\st'=st:=by
 have h':=h;obtain⟨g1,g2⟩:=h;refine bN ?_;rw[abF];refine(wQ h' hd).same ?_;have e1:¬((m.count:Int)<aY rec.length):=pX
 simp[nZ,hv.len rec.length rq pX];refine(BF hl).same ?_;simp[eW,g2,e1];have e2:¬m.count<aY rec.length:=pX
 refine(CI h').same ?_;simp[ht];refine(JL h' h1 h2 h3).same ?_;simp[hr]
def MM (hf:eM st)(h:fI st r a m)(hd:cG st a F D)(hrF:r∉F)(nZ:D.dead=false)(hv:Sl st F v 1 (aj rec))(hl:rec.length<=1000000)
 (h0:0<m.count) (h1:m.first+m.count<=65536) (h2:m.base<=4611686018427387904) (h3:m.last<=1000000000) (hc:aY rec.length<=m.count) (ht:¬m.last<m.top) (hr:¬m.room<aY rec.length) (hw:D.waits.length+65536<100000000):
 R 131 [.ptr r 0,v] st λx st'=>∃res,D.writes ((List.range (aY rec.length)).map (m.rf rec))=res/\x=I (if res.1=0 then 0 else 20)/\Kp (r::F) st st'/\(∃F',cG st' a F' res.2/\∀b∈F',b∈F\/st.nx<=b)/\
   fI st' r a (if res.1=0 then {m with last:=m.last+aY rec.length,top:=m.last+aY rec.length}else m):=by
 have h':=h;obtain⟨g1,g2⟩:=h;refine bN ?_;rw[abF];refine(wQ h' hd).same ?_;have hlen:=hv.len rec.length rq pX;have e1:¬((m.count:Int)<aY rec.length):=pX
 have e2:¬m.count<aY rec.length:=pX
 have e3:IntKind.i64.wrap (4611686018427387904-(aY rec.length:Int))=4611686018427387904-(aY rec.length:Int):=bB pX;have e4:¬(4611686018427387904-(aY rec.length:Int)<m.last):=pX
 simp only[nZ,aDp,aDE,ay,fq,aEq,aDJ,af,ag,hlen];refine(BF pX).same ?_;simp only[eW,br,ah,af,aC,g2,ar,aDx,aDq,aDo,az,ay,dx,e1,aEY,ag,aDp,aDE];refine(CI h').same ?_;simp only[ht,aEY,ag,aDp,aDE];refine(JL h' pX h2 pX).same ?_;simp only[af,g2,ar,aDq,aDo,az,ay,dx,hr,aEY,ag,aDp,aDE,dX,e3,e4];show db _ _ _;simp only[aH,aI];generalize hN:aY rec.length=N at*
 refine bK (λfu vs s=>∃i Di Fi,fu+i=N/\vs=[.ptr r 0,v,I N,I N,I i]/\Kp F st s/\cG s a Fi Di/\(∀b∈Fi,b∈F\/st.nx<=b)/\Di.dead=false/\Di.waits.length=D.waits.length+i/\D.writes ((List.range N).map (m.rf rec))=Di.writes (((List.range N).drop i).map (m.rf rec))) ?_ (n:=N)
  ⟨0,D,F,rfl,rfl,Kp.refl _ _,hd,adt,nZ,rfl,rq⟩
 rintro fu vs s k ⟨i,Di,Fi,hi,rfl,hk,VI,P9,aop,X1,Gb⟩ next;have hn:=hk.nx;have RC:=h'.keep hk hrF;simp only[aH,aI]
 by_cases hlt:i<N
 .have a1:ai .lss none false (I i) (I N) s=.ok (.bool true) s:=by rw[ay,cY,aDz pX]
  simp only[a1,af,ag,aDQ,bA];have k7:Kp [] s (St.new s (.cells [.int .i64 0,.bool false,.ae] 200 false)):=(Kp.refl _ s).new _;have g7:(St.new s (.cells [.int .i64 0,.bool false,.ae] 200 false)).m.g s.nx=some (.cells [.int .i64 0,.bool false,.ae] 200 false):=aw _ _;have hn7:(St.new s (.cells [.int .i64 0,.bool false,.ae] 200 false)).nx=s.nx+1:=rfl;generalize St.new s (.cells [.int .i64 0,.bool false,.ae] 200 false)=s7 at*;have hr7:=RC.keep k7 rq;have Ys:=hr7.2;have hv7:=(hv.mono hk).mono (k7.mono rq);have aei:=hv7.len rec.length rq pX;have b1:ai .add none true (I m.last) (.int .i64 1) s7=.ok (I ((m.last+1:Nat):Int)) s7:=CE
  have b2:ai .add none false (I ((m.last+1:Nat):Int)) (I i) s7=.ok (I ((m.last+1+i:Nat):Int)) s7:=CE
  have b3:ai .sub none true (I N) (.int .i64 1) s7=.ok (I ((N-1:Nat):Int)) s7:=EH
  have b4:ai .eql (some .int) false (I i) (I ((N-1:Nat):Int)) s7=.ok (.bool (decide (i+1=N))) s7:=by
   rw[ay,cz];congr 2;simp only[aDU];omega
  have b5:ai .mul none true (I i) (.int .i64 501) s7=.ok (I ((i*501:Nat):Int)) s7:=Sd
  have b6:ai .add none true (I ((i*501:Nat):Int)) (.int .i64 501) s7=.ok (I ((i*501+501:Nat):Int)) s7:=CE
  have b7:BJ false (I ((i*501+501:Nat):Int)) (I rec.length) s7=.ok (I ((min (i*501+501) rec.length:Nat):Int)) s7:=by
   have e:BJ false (I ((i*501+501:Nat):Int)) (I rec.length) s7=.ok (I (if (rec.length:Int)<((i*501+501:Nat):Int)then (rec.length:Int)else ((i*501+501:Nat):Int))) s7:=rfl;rw[e];congr 2;split<;>omega
  have Ew:=Fm (len:=rec.length) (i:=i) (by rw[hN];exact hlt);obtain⟨v2,p1,p2⟩:=hv7.both (n:=rec.length) pX rq (l:=i*501) (h:=min (i*501+501) rec.length) pX pX s7
  have TS:List.take ((min (i*501+501) rec.length-i*501)*1) (List.drop (i*501*1) (aj rec))=aj (cB rec m.last N i).data:=by
   unfold cB aj;rw[aEQ,aEQ,<-aEN,<-aFc]
   congr 1
   by_cases hm:i*501+501<=rec.length
   .rw[aEi hm];congr 1;omega
   .rw[Nat.min_eq_right pX,aDA rq,aDA AI]
  rw[TS]at p2;obtain⟨KX,v22,v23⟩:=p2.bD
  have mR:bu [.int .i64 0,.bool false,.ae] [(0,1,I ((m.last+1+i:Nat):Int)),(1,1,.bool (decide (i+1=N))),(2,1,v2)] s7=.ok (.agg [I ((m.last+1+i:Nat):Int),.bool (decide (i+1=N)),v2]) s7:=by
   rw[dw];simp[cq,bo,KX,v23]
  have ko:bo [.int .i64 0,.bool false,.ae] 0 [I ((m.last+1+i:Nat):Int),.bool (decide (i+1=N)),v2]=[I ((m.last+1+i:Nat):Int),.bool (decide (i+1=N)),v2]:=dZ _ _ rfl;simp only[br,ah,af,aC,Ys,ar,aDx,aDq,aDo,az,b1,b2,b3,b4,b5,b6,aei,b7,p1,mR,jJ g7,aT,aF,g7,aS,aV,ko];refine⟨⟨rfl,by simp[v22],rq⟩,⟨adu,adu,adu⟩,adu,?_⟩;have k8:Kp [] s (St.set s7 s.nx (.cells [I ((m.last+1+i:Nat):Int),.bool (decide (i+1=N)),v2] 200 false)):=k7.set _ (.inr (aDt _)) pX;have g8:(St.set s7 s.nx (.cells [I ((m.last+1+i:Nat):Int),.bool (decide (i+1=N)),v2] 200 false)).m.g s.nx=some (.cells [I ((m.last+1+i:Nat):Int),.bool (decide (i+1=N)),v2] 200 false):=aq _ _ _;have k78:Kp [s.nx] s7 (St.set s7 s.nx (.cells [I ((m.last+1+i:Nat):Int),.bool (decide (i+1=N)),v2] 200 false)):=(Kp.refl _ s7).set _ (.inl rq) pX;have hn8:(St.set s7 s.nx (.cells [I ((m.last+1+i:Nat):Int),.bool (decide (i+1=N)),v2] 200 false)).nx=s.nx+1:=hn7
  have p8:Sl (St.set s7 s.nx (.cells [I ((m.last+1+i:Nat):Int),.bool (decide (i+1=N)),v2] 200 false)) [] v2 1 (aj (cB rec m.last N i).data):=by
   obtain⟨v3,p3,p4⟩:=((hv.mono hk).dz (Y:=[]) rq).both (n:=rec.length) pX rq (l:=i*501) (h:=min (i*501+501) rec.length) pX pX s7;rw[p1]at p3;cases p3;rw[TS]at p4;exact p4.mono k8
  generalize St.set s7 s.nx (.cells [I ((m.last+1+i:Nat):Int),.bool (decide (i+1=N)),v2] 200 false)=s8 at*;rw[aR (n:=3) g8 rfl,af];have Vp:(cB rec m.last N i).data.length<=501:=aba
  refine(By (p:=cB rec m.last N i) p8 Vp aba).mono ?_;rintro _ s9 ⟨rfl,k9⟩;have lu:=Piece.qf (cB rec m.last N i) Vp;have Yi:(aj (cB rec m.last N i).bT).length=512:=by simpa using lu
  have RQ:(St.new s9 (.cells (zr 512) 233 false)).m.g s9.nx=some (.cells (zr 512) 233 false):=aw _ _;have DM:bo (zr 512) 0 (aj (cB rec m.last N i).bT)=aj (cB rec m.last N i).bT:=dZ _ _ (by rw[Yi];exact List.length_replicate.symm);simp only[cE,aT,aF,RQ,aS,aV,DM];refine⟨⟨Yi,bC _,rq⟩,?_⟩;have hn9:=k9.nx;have rh:Kp [] s (St.set (St.new s9 (.cells (zr 512) 233 false)) s9.nx (.cells (aj (cB rec m.last N i).bT) 233 false)):=((k8.trans k9 rq).new _).set _ (.inr pX) rq;have alM:Kp [] s9 (St.set (St.new s9 (.cells (zr 512) 233 false)) s9.nx (.cells (aj (cB rec m.last N i).bT) 233 false)):=((Kp.refl _ s9).new _).set _ (.inr (aDt _)) rq;have g11:(St.set (St.new s9 (.cells (zr 512) 233 false)) s9.nx (.cells (aj (cB rec m.last N i).bT) 233 false)).m.g s9.nx=some (.cells (aj (cB rec m.last N i).bT) 233 false):=aq _ _ _;have anc:(St.set (St.new s9 (.cells (zr 512) 233 false)) s9.nx (.cells (aj (cB rec m.last N i).bT) 233 false)).nx=s9.nx+1:=rfl;generalize St.set (St.new s9 (.cells (zr 512) 233 false)) s9.nx (.cells (aj (cB rec m.last N i).bT) 233 false)=c9 at*;have Yt:=RC.keep rh rq;have Vm:=Yt.2;have g8':=(alM.keep s.nx pX rq).trans ((k9.keep s.nx pX rq).trans g8);simp only[Vm,g8',ar,aDo,az];refine(zo Yt h0 pX (n:=m.last+1+i) pX).same ?_;have AL:bR 512 1 (.ptr s9.nx 0) none none c9=.ok (.slice s9.nx 0 512 512 0) c9:=rfl;simp only[AL,af,Vm,ar,aDo,az];have adA:Sl c9 Fi (.slice s9.nx 0 512 512 0) 1 (aj (cB rec m.last N i).bT):=.inr ⟨s9.nx,0,512,512,0,rfl,by rw[Yi],⟨aDt _,.inl rfl⟩,.inr ⟨λh=>by have:=VI.lt _ h;omega,pX,_,_,_,g11,pX,Wu⟩⟩;refine(vi (VI.keep rh rq) (rh.fresh (hk.fresh hf)) pX adA lu).mono ?_;rintro _ ey ⟨rfl,rl,F',aeZ,nz⟩;have ayg:=rl.nx;have I7:=(hk.trans rh rq).trans rl P9;have Mm:=λb hb=>(nz b hb).elim (P9 b) λh=>.inr (by have:=rh.nx;omega)
  have amB:r∉Fi:=λh=>(P9 r h).elim hrF λh2=>by have:=h'.1;omega
  have amD:=Yt.keep rl amB
  have Y6:(List.range N).drop i=i::(List.range N).drop (i+1):=by
   rw[aDN Wt];simp
  have Gf:m.rf rec i=(m.place (m.last+1+i),(cB rec m.last N i).bT):=by unfold RingM.rf;rw[hN]
  rw[Y6,aEc,Gf]at Gb;simp only[aP.writes]at Gb;refine⟨⟨⟨adu,adu⟩,adu,adu⟩,adu,?_⟩
  by_cases hz:(Di.write ((m.place (m.last+1+i):Nat):Int) (cB rec m.last N i).bT).1=0
  .rw[aDy hz]at Gb;obtain⟨z1,z2,z3⟩:=yM hz;have a3:∀s,jK .add .i64 (i:Int) .i64 1 s=.ok (I ((i+1:Nat):Int)) s:=λs=>by rw[cI,bB pX];rfl
   simp only[hz,ay,fq,aEq,aDJ,af,ag,aDp,aDE,a3];exact next (fu-1) _ _ pX ⟨i+1,_,F',pX,rfl,I7,aeZ,Mm,by rw[z1];exact aop,by rw[z2];simp;omega,Gb⟩
  .rw[aDv hz]at Gb;simp only[ay,fq,hz,aEY,aDI,af,ag,aDQ];refine⟨_,Gb,by rw[aDv hz],I7.mono (λq hq=>.inl WD),⟨F',aeZ,Mm⟩,?_⟩;rw[aDv hz];exact amD
 .have a1:ai .lss none false (I i) (I N) s=.ok (.bool false) s:=by rw[ay,cY,aDr pX]
  have hiN:i=N:=pX
  subst hiN;have amz:=RC.2;simp only[a1,af,ag,aDp,aDE];have PL:(List.range i).drop i=[]:=aEa rq;rw[PL]at Gb;have a2:ai .add none false (I m.last) (I i) s=.ok (I ((m.last+i:Nat):Int)) s:=CE
  have c1:bo [CV.ptr a 0,I m.first,I m.count,I m.base,I m.last,I m.top] 4 [I ((m.last+i:Nat):Int)]=[CV.ptr a 0,I m.first,I m.count,I m.base,I ((m.last+i:Nat):Int),I m.top]:=rfl;have c2:bo [CV.ptr a 0,I m.first,I m.count,I m.base,I ((m.last+i:Nat):Int),I m.top] 5 [I ((m.last+i:Nat):Int)]=[CV.ptr a 0,I m.first,I m.count,I m.base,I ((m.last+i:Nat):Int),I ((m.last+i:Nat):Int)]:=rfl;simp only[br,ah,af,aC,amz,ar,aDx,aDq,aDo,az,a2,lD,aF,aS,iL,c1,aq,c2,set_set];refine⟨⟨rfl,rfl,rq⟩,⟨rfl,rfl,rq⟩,(0,Di),Gb,rfl,(hk.mono λq hq=>.inl WD).set _ (.inl rq) RC.1,⟨Fi,VI.keep (X:=[r]) ((Kp.refl _ s).set _ (.inl rq) RC.1) (λb hb=>by simp;exact λe=>(P9 r (e▸hb)).elim hrF λh2=>by have:=h'.1;omega),P9⟩,?_⟩;exact⟨RC.1,aq _ _ _⟩
end
end
