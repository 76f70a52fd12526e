import Derived.Test.YtomffjeofpafnaaGreatDoorRingA
namespace Lim
open Go
noncomputable section
set_option linter.defProp false
set_option maxRecDepth 100000
section
variable {G:List Nat}{vs:List CV}{L:List (List UInt8)}
section
variable {st st':St}
def tl {f:CV}{args:List CV}{Q Q':CV->St->Prop}(h:fF R f args st Q)(hq:∀v s,Q v s->Q' v s):fF R f args st Q':=by
 unfold fF at*
 split at h
 .exact R.mono h hq
 .exact h.elim
def lT (st:St)(G:List Nat):List CV->List (List UInt8)->Prop
 |[],[]=>True
 |v::vs,l::ls=>lr st G v 1 (aj l)/\lT st G vs ls
 |_,_=>False
def lT.keep {X:List Nat}(h:lT st G vs L)(hk:Kp X st st')(hx:∀b∈G,b∉X):lT st' G vs L:=by
 induction vs generalizing L with
 |nil=>cases L with|nil=>trivial|cons l L=>exact h
 |cons v vs ih=>cases L with|nil=>exact h|cons l L=>exact⟨h.1.keep hk hx,ih h.2⟩
def lT.mono {H:List Nat}(h:lT st G vs L)(hg:∀b∈G,b∈H):lT st H vs L:=by
 induction vs generalizing L with
 |nil=>cases L with|nil=>trivial|cons l L=>exact h
 |cons v vs ih=>cases L with|nil=>exact h|cons l L=>exact⟨h.1.mono hg,ih h.2⟩
def lT.snoc {v:CV}{l:List UInt8}(h:lT st G vs L)(hv:lr st G v 1 (aj l)):lT st G (vs++[v]) (L++[l]):=by
 induction vs generalizing L with
 |nil=>cases L with|nil=>exact⟨hv,aer⟩|cons l L=>exact h.elim
 |cons v vs ih=>cases L with|nil=>exact h.elim|cons l L=>exact⟨h.1,ih h.2⟩
def lT.len (h:lT st G vs L):vs.length=L.length:=by
 induction vs generalizing L with
 |nil=>cases L with|nil=>rfl|cons l L=>exact h.elim
 |cons v vs ih=>cases L with|nil=>exact h.elim|cons l L=>simp[ih h.2]
def lT.one (h:lT st G vs L):bj vs=true:=by
 induction vs generalizing L with
 |nil=>rfl
 |cons v vs ih=>cases L with|nil=>exact h.elim|cons l L=>rw[uM,h.1.nil.bE.2.1,ih h.2];rfl
def mZ (P:Nat->Piece)(count:Nat):Nat->Nat->List UInt8->List (List UInt8)->Nat->List (List UInt8)×Nat
 |0,_,_,out,last=>(out,last)
 |f+1,n,now,out,last=>if (P ((n+1)%count)).n=n+1 then
   (if (P ((n+1)%count)).last=true then mZ P count f (n+1) [] (out++[now++(P ((n+1)%count)).data]) (n+1)else mZ P count f (n+1) (now++(P ((n+1)%count)).data) out last)
  else (out,last)
def pI (st:St)(x:CV)(L:List (List UInt8))(Fo G:List Nat):Prop:=∃vs,Own st x 1 93 vs Fo/\lT st G vs L/\(∀b∈Fo,b<st.nx)/\(∀b∈G,b<st.nx)/\∀b∈Fo,b∉G
structure abu (kK:St)(r a c q:Nat)(F:List Nat)(D:bf)(P:Nat->Piece)(m:RingM)(f:CV)(fuel:Nat)(vs:List CV)(s:St)(n:Nat)(now:List UInt8)(out:List (List UInt8))(last:Nat)(xo xn:CV)(Fo Fn G:List Nat):Prop where
 vs:vs=[.ptr r 0,xo,xn,f]
 fu:n+fuel=m.base+m.count
 lo:m.base<=n
 kp:Kp [r] kK s
 ring:fQ s r a {m with last:=last}
 EU:dz s a F D
 nx:rz s f c q r n
 axs:pI s xo out Fo G
 own:Own s xn 1 5 (aj now) Fn
 ltn:∀b∈Fn,b<s.nx
 ge:∀b,b∈Fo\/b∈Fn\/b∈G->kK.nx<=b/\b≠c/\b≠q
 L5:∀b∈Fn,b∉Fo/\b∉G
 szn:now.length<=501*n
 szo:out.length<=n
 tgt:mZ P m.count fuel n now out last=mZ P m.count m.count m.base [] [] m.last
def Jk {r a:Nat}{m:RingM}{F:List Nat}{D:bf}{P:Nat->Piece}(hf:eH st)(h:fQ st r a m)(hd:dz st a F D)(hr:r∉F)(rY:D.dead=false)(hp:tA D m P)(hb:m.base<=1000000000):
 R 115 [.ptr r 0] st λx st'=>∃xo Fo G,x=.tuple [xo,I 0]/\Kp [r] st st'/\fQ st' r a {m with last:=(mZ P m.count m.count m.base [] [] m.last).2}/\pI st' xo (mZ P m.count m.count m.base [] [] m.last).1 Fo G/\∀b,b∈Fo\/b∈G->st.nx<=b:=by
 refine bP ?_;rw[ald];show R 154 [.ptr r 0] st _;refine(Jq h).mono ?_;rintro f s1 ⟨k1,c,q,BT,hc,hq⟩;simp only[aL,aM];refine bN (λfuel vs s=>∃n now out last xo xn Fo Fn G,abu st r a c q F D P m f fuel vs s n now out last xo xn Fo Fn G) ?_ (n:=m.count) ⟨m.base,[],[],m.last,.ae,.ae,[],[],[],rfl,rfl,aEQ _,k1.mono uG,h.keep k1 uG,hd.keep k1 uG,BT,⟨[],.inl ⟨rfl,rfl,rfl⟩,aer,uG,uG,uG⟩,.inl ⟨rfl,rfl,rfl⟩,uG,uG,uG,uG,uG,rfl⟩;rintro fuel vs s k ⟨n,now,out,last,xo,xn,Fo,Fn,G,I⟩ next;obtain⟨rfl,i1,i2,i3,i4,i5,i6,i7,i8,i9,CO,i11,i12,i13,QM⟩:=I;have hS3:∀s:St,True:=λ_=>trivial;have oN:=i3.nx;have QU:=h.1;have hp':tA D {m with last:=last} P:=⟨hp.pos,hp.fits,hp.jL,hp.base,hp.cur⟩;simp only[aL,aM];obtain⟨vsr,j1,j2,j3,j4,j5⟩:=i7;have Hj:∀(s':St),Kp [c] s s'->Kp [r] st s':=λs' hk=>i3.trans hk (by simp;right;exact hc)
 by_cases EJ:fuel=0
 .subst EJ;refine tl (Qr i4 hp' i6 (by simpa using i1)) ?_;rintro _ s3 ⟨rfl,k3⟩;have g4:(St.new s3 (.cells [.int .i64 0,.bool false,.ae] 200 false)).m.g s3.nx=some (.cells [.int .i64 0,.bool false,.ae] 200 false):=ao _ _;have kk:∀blk,Kp [] s (St.set (St.new s3 (.cells [.int .i64 0,.bool false,.ae] 200 false)) s3.nx blk):=λblk=>(k3.new _).set _ (.inr k3.nx) uG;simp only[aE,aN,af,cH,aS,aJ,g4,aW,aT,az,fh,aFZ,aFh,aG,aEM,aFa,aFf,bh,cU,aF,ag,aFm];refine⟨⟨rfl,rfl,u7⟩,xo,Fo,G,rfl,i3.trans (kk _) uG,?_,?_,λb hb=>(CO b (by rcases hb with h|h<;>simp[h])).1⟩
  .rw[<-QM];exact i4.keep (kk _) uG
  .rw[<-QM];exact⟨vsr,j1.keep (kk _) λb hb=>⟨j3 b hb,uG⟩,j2.keep (kk _) uG,λb hb=>aFg (j3 b hb) (kk (.map [] 0)).nx,λb hb=>aFg (j4 b hb) (kk (.map [] 0)).nx,j5⟩
 .obtain⟨fu,rfl⟩:∃fu,fuel=fu+1:=⟨fuel-1,qE⟩;have hrc:r≠c:=by omega
  have hrq:r≠q:=qE
  have hcF:c∉F:=λh=>by have:=hd.lt c h;omega
  refine tl (UQ (i3.fresh hf) i4 i5 hr rY hp' i6 vR (by simpa using i2) vR hrc hrq hcF) ?_;rintro _ s3 ⟨_,rfl,⟨v,Fv,rfl,k3,ho,Nx⟩,aom⟩;have e0:RingM.is {m with last:=last} P (n+1)↔(P ((n+1)%m.count)).n=n+1:=Iff.rfl;rw[show decide (RingM.is {m with last:=last} P (n+1))=decide ((P ((n+1)%m.count)).n=n+1)from decide_eq_decide.2 e0];simp only[mZ]at QM;generalize hP:P ((n+1)%m.count)=p at*;have g4:(St.new s3 (.cells [.int .i64 0,.bool false,.ae] 200 false)).m.g s3.nx=some (.cells [.int .i64 0,.bool false,.ae] 200 false):=ao _ _;have kx:bD [.int .i64 0,.bool false,.ae] 0 [I p.n,.bool p.last,v]=[I p.n,.bool p.last,v]:=ep _ _ rfl;obtain⟨o1,o2⟩:=ho.cE;have k5:Kp [c] s (St.set (St.new s3 (.cells [.int .i64 0,.bool false,.ae] 200 false)) s3.nx (.cells [I p.n,.bool p.last,v] 200 false)):=(k3.new _).set _ (.inr k3.nx) uG;have Oo:Kp [] s3 (St.set (St.new s3 (.cells [.int .i64 0,.bool false,.ae] 200 false)) s3.nx (.cells [I p.n,.bool p.last,v] 200 false)):=((Kp.refl _ s3).new _).set _ (.inr (aEQ _)) uG;have g5:(St.set (St.new s3 (.cells [.int .i64 0,.bool false,.ae] 200 false)) s3.nx (.cells [I p.n,.bool p.last,v] 200 false)).m.g s3.nx=some (.cells [I p.n,.bool p.last,v] 200 false):=ar _ _ _;have hn5:(St.set (St.new s3 (.cells [.int .i64 0,.bool false,.ae] 200 false)) s3.nx (.cells [I p.n,.bool p.last,v] 200 false)).nx=s3.nx+1:=rfl;simp only[aE,aN,af,cH,aS,aJ,g4,aW,aT,kx,az,fh,aFZ,aFh,aG,aEM,aFa,aFf,bh,cU,aF,ag];refine⟨⟨rfl,abT,u7⟩,?_⟩;generalize St.set (St.new s3 (.cells [.int .i64 0,.bool false,.ae] 200 false)) s3.nx (.cells [I p.n,.bool p.last,v] 200 false)=s5 at*;have hn3:=k3.nx;have nc:∀b,b∈Fo\/b∈Fn\/b∈G->b∉[c]:=λb hb=>by simpa using (CO b hb).2.1
  have hr5:=i4.keep k5 (by simpa using hrc);have hd5:=i5.keep k5 (λb hb=>by simp;exact λe=>hcF (e▸hb));have hx5:=aom.keep Oo uG uG;have jo5:=j1.keep k5 λb hb=>⟨j3 b hb,nc b (.inl hb)⟩;have js5:=j2.keep k5 λb hb=>nc b (.inr (.inr hb));have ow5:=i8.keep k5 λb hb=>⟨i9 b hb,nc b (.inr (.inl hb))⟩;have ov5:=ho.keep Oo λb hb=>⟨(Nx b hb).2,uG⟩
  by_cases his:p.n=n+1
  .rw[aEV his,aFh,aET u7];rw[aEW his]at QM
   have aus:p.data.length<=501:=by
    obtain⟨_,u⟩:=hp.cur _ (Nat.mod_lt (n+1) hp.pos);rw[hP]at u;exact u.2.1
   have hvF:∀b∈Fv,s.nx<=b/\b<s5.nx/\b≠s3.nx:=λb hb=>by have:=Nx b hb;omega
   have hsv:Sl s5 [] v 1 (aj p.data):=ov5.sl λb hb=>⟨uG,(hvF b hb).2.1⟩;obtain⟨nn,Vd,BP⟩:=hsv.src [(.int .u8 0)];simp at Vd;subst Vd;have q1:=hp.fits;have q2:=hp.jL;obtain⟨OK,s6,Fn',a1,a2,a3,a4⟩:=ow5.append (n:=p.data.length) (bytes:=1) (T:=aj p.data) qE uG (bI _) (λb hb=>by have:=i9 b hb;omega) vR;have hn6:=a3.nx;have ns3:s3.nx∉Fn:=λh=>by have:=i9 _ h;omega
   have g6:=(a3.keep s3.nx qE ns3).trans g5;simp only[fl,ah,af,aB,g5,aq,aER,aEN,aEL,ay,BP,a1,aS,g6,ag];have Hq:∀b∈Fn',(b∈Fn\/s5.nx<=b)/\b<s6.nx:=λb hb=>⟨(a4 b hb).1.imp id λh=>qE,(a4 b hb).2⟩;have nF:∀b,b∈Fo\/b∈G->b∉Fn:=λb hb h=>(hb.elim (i11 b h).1 (i11 b h).2);have lF:∀b,b∈Fo\/b∈G->b<s5.nx:=λb hb=>by rcases hb with h|h;have:=j3 b h;omega;have:=j4 b h;omega
   have nr:r∉Fn:=λh=>by have:=(CO r (.inr (.inl h))).1;omega
   have nc':c∉Fn:=λh=>(CO c (.inr (.inl h))).2.1 rfl;have nq':q∉Fn:=λh=>(CO q (.inr (.inl h))).2.2 rfl;have hr6:=hr5.keep a3 nr;have AP:=hd5.keep a3 (λb hb h=>by have:=(CO b (.inr (.inl h))).1;have:=hd.lt b hb;omega);have hx6:=hx5.keep a3 nc' nq';have jo6:=jo5.keep a3 λb hb=>⟨lF b (.inl hb),nF b (.inl hb)⟩;have js6:=js5.keep a3 λb hb=>nF b (.inr hb);have EG:=(Hj s5 k5).trans a3 λb hb=>.inr (CO b (.inr (.inl hb))).1
   have aae:∀b,b∈Fo\/b∈Fn'\/b∈G->st.nx<=b/\b≠c/\b≠q:=λb hb=>by
    rcases hb with hb|hb|hb
    .exact CO b (.inl hb)
    .rcases(Hq b hb).1 with h|h
     .exact CO b (.inr (.inl h))
     .have:=i6.2.1;have:=i6.2.2.1;omega
    .exact CO b (.inr (.inr hb))
   have Rx:∀b∈Fn',b∉Fo/\b∉G:=λb hb=>by
    rcases(Hq b hb).1 with h|h
    .exact i11 b h
    .exact⟨λh2=>by have:=lF b (.inl h2);omega,λh2=>by have:=lF b (.inr h2);omega⟩
   by_cases hl:p.last=true
   .rw[aEW hl];rw[aEW hl]at QM;have Vt:=EG.fresh hf;obtain⟨b1,b2⟩:=a2.cE;have b3:=(a2.sl (X:=[]) λb hb=>⟨uG,(Hq b hb).2⟩).bE.1
    have AO:gC [(0,1,OK)] (cM 1 [CV.ae])=some [OK]:=by
     rw[cR,aEW ⟨⟨by rw[b2];rfl,b3⟩,by rw[b2];exact aEQ _⟩,ld,b2];rfl
    have jx:(St.skip s6).m.g s6.nx=none:=Vt _ (aEQ _);rw[bG,jH jx AO,aS];have k7:Kp [] s6 (St.set (St.skip s6) s6.nx (.cells [OK] 93 false)):=((Kp.refl _ s6).skip).set _ (.inr (aEQ _)) uG;have g77:(St.set (St.skip s6) s6.nx (.cells [OK] 93 false)).m.g s6.nx=some (.cells [OK] 93 false):=ar _ _ _;have hn7:(St.set (St.skip s6) s6.nx (.cells [OK] 93 false)).nx=s6.nx+1:=rfl;generalize St.set (St.skip s6) s6.nx (.cells [OK] 93 false)=s7 at*;have jo7:=jo6.keep k7 λb hb=>⟨by have:=lF b (.inl hb);omega,uG⟩;have js7:=js6.keep k7 uG
    have sn7:lr s7 Fn' OK 1 (aj (now++p.data)):=by
     have:=a2.keep k7 λb hb=>⟨(Hq b hb).2,uG⟩;rw[bL];exact this.adF λb hb=>by have:=(Hq b hb).2;omega
    have hvl:=js7.len;rw[Gp (k:=1) (n:=1) g77 qE rfl];obtain⟨xo',s8,Fo',c1,c2,c3,c4⟩:=jo7.append (n:=1) (bytes:=24) (T:=[OK]) qE rfl (by rw[uM,b1];rfl) (λb hb=>by have:=lF b (.inl hb);omega) vR;have hn8:=c3.nx;have amx:s3.nx∉Fo:=λh=>by have:=j3 _ h;omega
    have nro:r∉Fo:=λh=>by have:=(CO r (.inl h)).1;omega
    have nco:c∉Fo:=λh=>(CO c (.inl h)).2.1 rfl;have nqo:q∉Fo:=λh=>(CO q (.inl h)).2.2 rfl;have g7:=(k7.keep s3.nx qE uG).trans g6;have g8:=(c3.keep s3.nx qE amx).trans g7;have hr8:=(hr6.keep k7 uG).keep c3 nro;have anN:=hr8.2;have Iw:=(AP.keep k7 uG).keep c3 (λb hb h=>by have:=(CO b (.inl h)).1;have:=hd.lt b hb;omega);have hx8:=(hx6.keep k7 uG uG).keep c3 nco nqo;have hk8:=(EG.trans k7 uG).trans c3 λb hb=>.inr (CO b (.inl hb)).1;have js8:=js7.keep c3 λb hb h=>j5 b h hb;have sn8:=sn7.keep c3 λb hb h=>(Rx b hb).1 h;have RP:∀b∈Fo',(b∈Fo\/s7.nx<=b)/\b<s8.nx:=λb hb=>⟨(c4 b hb).1.imp id λh=>qE,(c4 b hb).2⟩;have ZP:bD [CV.ptr a 0,I m.first,I m.count,I m.base,I last,I m.top] 4 [I p.n]=[CV.ptr a 0,I m.first,I m.count,I m.base,I p.n,I m.top]:=rfl;simp only[c1,aS,ah,af,g7,g8,aq,aER,aEL,ay,bF,aJ,anN,aW,jc,ZP];refine⟨⟨rfl,rfl,uG⟩,⟨⟨aer,aer,aer⟩,aer⟩,⟨aer,aer⟩,?_⟩;have afl:=hr8.1;have Ez:∀b,b≠r->(St.set s8 r (.cells [.ptr a 0,I m.first,I m.count,I m.base,I p.n,I m.top] 198 false)).m.g b=s8.m.g b:=λb hb=>al _ _ _ _ hb;have k9:Kp [r] s8 (St.set s8 r (.cells [.ptr a 0,I m.first,I m.count,I m.base,I p.n,I m.top] 198 false)):=(Kp.refl _ s8).set _ (.inl uG) afl;have ner:∀b,st.nx<=b->b∉[r]:=λb hb=>vR
    refine next fu _ _ qE ⟨n+1,[],out++[now++p.data],n+1,xo',.ae,Fo',[],Fn'++G,rfl,qE,qE,hk8.trans k9 uG,⟨afl,by rw[ar,his]⟩,Iw.keep k9 (λb hb=>by simp;exact λe=>hr (e▸hb)),hx8.keep k9 (by simpa using aFL hrc) (by simpa using aFL hrq),⟨vsr++[OK],c2.keep k9 λb hb=>⟨(RP b hb).2,ner b ?_⟩,?_,λb hb=>(RP b hb).2,?_,?_⟩,.inl ⟨rfl,rfl,rfl⟩,uG,?_,uG,uG,vR,QM⟩
    .rcases(RP b hb).1 with h|h
     .exact(CO b (.inl h)).1
     .have:=EG.nx;omega
    .refine lT.snoc ((js8.keep k9 λb hb=>ner b (CO b (.inr (.inr hb))).1).mono λb hb=>O2) ((sn8.keep k9 λb hb=>ner b ?_).mono λb hb=>O2);exact(aae b (.inr (.inl hb))).1
    .intro b hb;show b<s8.nx;rcases aEY.1 hb with h|h
     .have:=(Hq b h).2;omega
     .have:=lF b (.inr h);omega
    .intro b hb h2;rcases(RP b hb).1 with h|h
     .rcases aEY.1 h2 with h3|h3
      .exact(Rx b h3).1 h
      .exact j5 b h h3
     .rcases aEY.1 h2 with h3|h3
      .have:=(Hq b h3).2;omega
      .have:=lF b (.inr h3);omega
    .intro b hb;rcases hb with hb|hb|hb
     .rcases(RP b hb).1 with h|h
      .exact CO b (.inl h)
      .have:=EG.nx;have:=i6.2.1;have:=i6.2.2.1;omega
     .simp at hb
     .rcases aEY.1 hb with h|h
      .exact aae b (.inr (.inl h))
      .exact CO b (.inr (.inr h))
   .rw[aET hl];rw[aET hl]at QM;refine next fu _ _ qE ⟨n+1,now++p.data,out,last,xo,OK,Fo,Fn',G,rfl,qE,qE,EG,hr6,AP,hx6,⟨vsr,jo6,js6,λb hb=>by have:=j3 b hb;omega,λb hb=>by have:=j4 b hb;omega,j5⟩,by rw[bL];exact a2,λb hb=>(Hq b hb).2,aae,Rx,vR,qE,QM⟩
  .rw[aEO his,aFf,aEW rfl];rw[aET his]at QM;refine⟨xo,Fo,G,rfl,Hj s5 k5,?_,?_,λb hb=>(CO b (by rcases hb with h|h<;>simp[h])).1⟩
   .rw[<-QM];exact hr5
   .rw[<-QM];exact⟨vsr,jo5,js5,λb hb=>by have:=j3 b hb;omega,λb hb=>by have:=j4 b hb;omega,j5⟩
end
end
section
variable {st st':St}
def mD (P:Nat->Piece)(count base:Nat):Nat->Nat
 |0=>base
 |i+1=>if (P i).n≠0/\(P i).n%count=i then max (mD P count base i) (P i).n else mD P count base i
def KB (P:Nat->Piece)(count base B:Nat)(hb:base<=B)(h:∀j,j<count->(P j).n<=B):∀i,i<=count->mD P count base i<=B:=by
 intro i
 induction i with
 |zero=>intro _;exact hb
 |succ i ih=>
  intro hi;simp only[mD];have:=ih qE;have:=h i qE
  split<;>omega
def RingM.opened (first count base:Nat)(P:Nat->Piece):RingM:=⟨first,count,base,(mZ P count count base [] [] base).2,mD P count base count⟩
def zU {a:Nat}{F:List Nat}{D:bf}{P:Nat->Piece}{first count base:Nat}(hf:eH st)(hd:dz st a F D)(rY:D.dead=false)(hp:tA D ⟨first,count,base,base,base⟩ P)(hb:base<=1000000000):
 R 69 [.ptr a 0,I first,I count,I base] st λx st'=>∃r xo Fo G,x=.tuple [.ptr r 0,xo,I 0]/\Kp [] st st'/\fQ st' r a (RingM.opened first count base P)/\pI st' xo (mZ P count count base [] [] base).1 Fo G/\(∀b,b∈Fo\/b∈G->st.nx<=b)/\st.nx<=r:=by
 refine bP ?_;rw[w69];have q0:0<count:=hp.pos;have q1:first+count<=D.aA.length:=hp.fits
 have q2:=hp.jL;simp only[cD,af,ag,aEM,aFa];refine(vu hd).same ?_;have e1:¬(first:Int)<0:=qE
 have e2:¬(count:Int)<1:=qE
 have e3:¬(D.aA.length:Int)<count:=qE
 have e4:IntKind.i64.wrap ((D.aA.length:Int)-count)=(D.aA.length:Int)-count:=bz qE;have e5:¬((D.aA.length:Int)-count<first):=qE
 have e6:¬(base:Int)<0:=qE
 have e7:¬(4611686018427387904:Int)<base:=qE
 have nD:bk [.bA,.int .i64 0,.int .i64 0,.int .i64 0,.int .i64 0,.int .i64 0] [(0,1,.ptr a 0),(1,1,I first),(2,1,I count),(3,1,I base),(4,1,I base),(5,1,I base)] st=.ok (.agg [.ptr a 0,I first,I count,I base,I base,I base]) st:=by
  rw[dV];simp[cR,bD]
 simp only[az,c8,dx,dR,af,e1,e2,e3,e4,e5,e6,e7,aGv,aG,aEM,aFa,aFf,bh,aF,ag,nD,bV,aT];refine⟨rfl,?_⟩;show cZ _ _ _;simp only[aL,aM];refine bN (λfu vs s=>∃i,fu+i=count/\vs=[I first,.ptr st.nx 0,I count,I i]/\Kp [] st s/\fQ s st.nx a ⟨first,count,base,base,mD P count base i⟩) ?_ (n:=count) ⟨0,rfl,rfl,(Kp.refl _ st).new _,uG,ao _ _⟩;rintro fu vs s k ⟨i,hi,rfl,hk,hr⟩ next;have hn:=hk.nx;have Fh:=hd.keep hk uG;have hrF:st.nx∉F:=λh=>by have:=hd.lt _ h;omega
 have hle:=KB P count base 4611686018427387904 qE (λj hj=>(hp.cur j hj).2.1);simp only[aL,aM]
 by_cases hc:i<count
 .have nL:(i:Int)<count:=by omega
  have a1:ai .lss none false (I i) (I count) s=.ok (.bool true) s:=by rw[az,c8,aEV nL]
  have a2:ai .add none false (I first) (I i) s=.ok (I ((first+i:Nat):Int)) s:=Oh
  simp only[a1,a2,af,ag,aFm];obtain⟨u1,u2⟩:=hp.cur i hc;refine(F5 (hk.fresh hf) hr Fh hrF rY q0 vR (at_:=first+i) qE u2 u1).mono ?_;rintro _ s5 ⟨_,rfl,v,rfl,Fv,k5,ho,Nx⟩;have hn5:=k5.nx;obtain⟨o1,o2⟩:=ho.cE;have JR:(RingM.place ⟨first,count,base,base,mD P count base i⟩ (P i).n=first+i)↔(P i).n%count=i:=by unfold RingM.place;simp
  have g4:(St.new s5 (.cells [.int .i64 0,.bool false,.ae] 200 false)).m.g s5.nx=some (.cells [.int .i64 0,.bool false,.ae] 200 false):=ao _ _;have kx:bD [.int .i64 0,.bool false,.ae] 0 [I (P i).n,.bool (P i).last,v]=[I (P i).n,.bool (P i).last,v]:=ep _ _ rfl;have k7:Kp [] s (St.set (St.new s5 (.cells [.int .i64 0,.bool false,.ae] 200 false)) s5.nx (.cells [I (P i).n,.bool (P i).last,v] 200 false)):=(k5.new _).set _ (.inr hn5) uG;have g7:(St.set (St.new s5 (.cells [.int .i64 0,.bool false,.ae] 200 false)) s5.nx (.cells [I (P i).n,.bool (P i).last,v] 200 false)).m.g s5.nx=some (.cells [I (P i).n,.bool (P i).last,v] 200 false):=ar _ _ _;have hn7:(St.set (St.new s5 (.cells [.int .i64 0,.bool false,.ae] 200 false)) s5.nx (.cells [I (P i).n,.bool (P i).last,v] 200 false)).nx=s5.nx+1:=rfl;simp only[aE,aN,af,cH,aS,aJ,g4,aW,aT,kx,az,fh,aFZ,aFh,aEM,aFa,ag];refine⟨⟨rfl,abT,u7⟩,?_⟩;generalize St.set (St.new s5 (.cells [.int .i64 0,.bool false,.ae] 200 false)) s5.nx (.cells [I (P i).n,.bool (P i).last,v] 200 false)=s7 at*;have hr7:=hr.keep k7 uG;have ZM:=hr7.2;have a3:∀s,jX .add .i64 (i:Int) .i64 1 s=.ok (I ((i+1:Nat):Int)) s:=λs=>by rw[cO,bz qE];rfl
  have apF:decide ((P i).n≠0/\RingM.place ⟨first,count,base,base,mD P count base i⟩ (P i).n=first+i)=decide ((P i).n≠0/\(P i).n%count=i):=decide_eq_decide.2 (and_congr_right λ_=>JR);rw[apF]
  by_cases hq:(P i).n≠0/\(P i).n%count=i
  .rw[aEV hq,aEW rfl]
   have Vf:Cz true (I (mD P count base i)) (I (P i).n) s7=.ok (I ((mD P count base (i+1):Nat):Int)) s7:=by
    have e:Cz true (I (mD P count base i)) (I (P i).n) s7=.ok (I (if (mD P count base i:Int)<(P i).n then (P i).n else mD P count base i)) s7:=rfl;rw[e];simp only[mD];rw[aEW hq]
    congr 2
    split<;>omega
   have ZP:bD [CV.ptr a 0,I first,I count,I base,I base,I (mD P count base i)] 5 [I ((mD P count base (i+1):Nat):Int)]=[CV.ptr a 0,I first,I count,I base,I base,I ((mD P count base (i+1):Nat):Int)]:=rfl;simp only[bG,bF,ah,af,aB,ZM,g7,aq,aER,aEN,aEL,ay,Vf,aJ,aW,jc,ZP,a3];refine⟨⟨rfl,rfl,uG⟩,⟨aer,aer,aer⟩,aer,?_⟩;exact next (fu-1) _ _ qE ⟨i+1,qE,rfl,(hk.trans k7 uG).set _ (.inr (aEQ _)) hr7.1,hr7.1,ar _ _ _⟩
  .rw[aEO hq,aET u7];simp only[a3,af];refine next (fu-1) _ _ qE ⟨i+1,qE,rfl,hk.trans k7 uG,?_⟩;have e:mD P count base (i+1)=mD P count base i:=by simp only[mD];rw[aET hq]
   rw[e];exact hr7
 .have nL:¬(i:Int)<count:=by omega
  have hic:i=count:=qE
  have a1:ai .lss none false (I i) (I count) s=.ok (.bool false) s:=by rw[az,c8,aEO nL]
  simp only[a1,af,ag,aEM,aFa];rw[hic]at hr;refine(Jk (hk.fresh hf) hr Fh hrF rY ⟨hp.pos,hp.fits,hp.jL,hp.base,hp.cur⟩ hb).mono ?_;rintro _ s9 ⟨xo,Fo,G,rfl,k9,r9,alP,ge9⟩;simp only[aE,aN,af,az,fh,aFZ,aFh,aEM,aFa,ag];exact⟨st.nx,xo,Fo,G,rfl,hk.trans k9 uG,r9,alP,λb hb=>aGb hn (ge9 b hb),aEQ _⟩
end
section
variable {D:bf}{r a:Nat}{m:RingM}{F:List Nat}{v:CV}{rec:List UInt8}
section
variable {st st':St}
def bf.writes (D:bf):List (Nat×jU)->Int×bf
 |[]=>(0,D)
 |w::r=>if (D.write w.1 w.2).1=0 then (D.write w.1 w.2).2.writes r else D.write w.1 w.2
def db (rec:List UInt8)(last n i:Nat):Piece:=⟨last+1+i,decide (i+1=n),(rec.drop (i*501)).take 501⟩
def RingM.oL (m:RingM)(rec:List UInt8)(i:Nat):Nat×jU:=(m.place (m.last+1+i),(db rec m.last (bt rec.length) i).cC)
def zw {i:Int}{s:jU}(h:(D.write i s).1=0):(D.write i s).2.dead=D.dead/\(D.write i s).2.waits=D.waits++[(i.toNat,s)]/\(D.write i s).2.aA=D.aA:=by
 unfold bf.write at*
 by_cases h1:D.dead=true
 .rw[aEW h1]at h;cases h
 .rw[aET h1]at h⊢
  by_cases h2:i<0\/(D.aA.length:Int)<=i\/s.length≠512
  .rw[aEW h2]at h;cases h
  .rw[aET h2]at h⊢
   by_cases h3:D.out
   .rw[aEW h3]at h;cases h
   .rw[aET h3];exact⟨rfl,rfl,rfl⟩
def Gh {len i:Nat}(h:i<bt len):i*501<=len:=by
 unfold bt at h
 split at h
 .omega
 .omega
def HT {X:List Nat}(h:fQ st r a m)(hd:dz st a F D)(rY:D.dead=false)(hv:Sl st X v 1 (aj rec))(hl:rec.length<=1000000000)
 (h1:m.count<=1000000) (h2:m.base<=4611686018427387904) (h3:m.last<=4611686018427387904) (hc:bt rec.length<=m.count) (ht:¬m.last<m.top) (hr:m.room<bt rec.length):R 131 [.ptr r 0,v] st λx st'=>x=I 3/\st'=st:=by
 have h':=h;obtain⟨g1,g2⟩:=h;refine bP ?_;rw[adk];refine(xA h' hd).same ?_;have e1:¬((m.count:Int)<bt rec.length):=qE
 simp[rY,hv.len rec.length uG qE];refine(Cv hl).same ?_;simp[fB,g2,e1];have e2:¬m.count<bt rec.length:=qE
 refine(DB h').same ?_;simp[ht];refine(KJ h' h1 h2 h3).same ?_;simp[hr]
def N0 (hf:eH st)(h:fQ st r a m)(hd:dz st a F D)(hrF:r∉F)(rY:D.dead=false)(hv:Sl st F v 1 (aj rec))(hl:rec.length<=1000000)
 (h0:0<m.count) (h1:m.first+m.count<=65536) (h2:m.base<=4611686018427387904) (h3:m.last<=1000000000) (hc:bt rec.length<=m.count) (ht:¬m.last<m.top) (hr:¬m.room<bt rec.length) (hw:D.waits.length+65536<100000000):
 R 131 [.ptr r 0,v] st λx st'=>∃res,D.writes ((List.range (bt rec.length)).map (m.oL rec))=res/\x=I (if res.1=0 then 0 else 20)/\Kp (r::F) st st'/\(∃F',dz st' a F' res.2/\∀b∈F',b∈F\/st.nx<=b)/\
   fQ st' r a (if res.1=0 then {m with last:=m.last+bt rec.length,top:=m.last+bt rec.length}else m):=by
 have h':=h;obtain⟨g1,g2⟩:=h;refine bP ?_;rw[adk];refine(xA h' hd).same ?_;have hlen:=hv.len rec.length uG qE;have e1:¬((m.count:Int)<bt rec.length):=qE
 have e2:¬m.count<bt rec.length:=qE
 have e3:IntKind.i64.wrap (4611686018427387904-(bt rec.length:Int))=4611686018427387904-(bt rec.length:Int):=bz qE;have e4:¬(4611686018427387904-(bt rec.length:Int)<m.last):=qE
 simp only[rY,aEM,aFa,az,fh,aFZ,aFh,af,ag,hlen];refine(Cv qE).same ?_;simp only[fB,bF,ah,af,aB,g2,aq,aER,aEN,aEL,ay,az,dx,e1,aGv,ag,aEM,aFa];refine(DB h').same ?_;simp only[ht,aGv,ag,aEM,aFa];refine(KJ h' qE h2 qE).same ?_;simp only[af,g2,aq,aEN,aEL,ay,az,dx,hr,aGv,ag,aEM,aFa,dR,e3,e4];show cZ _ _ _;simp only[aL,aM];generalize hN:bt rec.length=N at*
 refine bN (λfu vs s=>∃i Di Fi,fu+i=N/\vs=[.ptr r 0,v,I N,I N,I i]/\Kp F st s/\dz s a Fi Di/\(∀b∈Fi,b∈F\/st.nx<=b)/\Di.dead=false/\Di.waits.length=D.waits.length+i/\D.writes ((List.range N).map (m.oL rec))=Di.writes (((List.range N).drop i).map (m.oL rec))) ?_ (n:=N)
  ⟨0,D,F,rfl,rfl,Kp.refl _ _,hd,ael,rY,rfl,uG⟩
 rintro fu vs s k ⟨i,Di,Fi,hi,rfl,hk,XH,RQ,apH,hwl,GS⟩ next;have hn:=hk.nx;have Tu:=h'.keep hk hrF;simp only[aL,aM]
 by_cases hlt:i<N
 .have a1:ai .lss none false (I i) (I N) s=.ok (.bool true) s:=by rw[az,c8,aEV qE]
  simp only[a1,af,ag,aFm,bG];have k7:Kp [] s (St.new s (.cells [.int .i64 0,.bool false,.ae] 200 false)):=(Kp.refl _ s).new _;have g7:(St.new s (.cells [.int .i64 0,.bool false,.ae] 200 false)).m.g s.nx=some (.cells [.int .i64 0,.bool false,.ae] 200 false):=ao _ _;have hn7:(St.new s (.cells [.int .i64 0,.bool false,.ae] 200 false)).nx=s.nx+1:=rfl;generalize St.new s (.cells [.int .i64 0,.bool false,.ae] 200 false)=s7 at*;have hr7:=Tu.keep k7 uG;have ZM:=hr7.2;have hv7:=(hv.mono hk).mono (k7.mono uG);have afI:=hv7.len rec.length uG qE;have b1:ai .add none true (I m.last) (.int .i64 1) s7=.ok (I ((m.last+1:Nat):Int)) s7:=xt
  have b2:ai .add none false (I ((m.last+1:Nat):Int)) (I i) s7=.ok (I ((m.last+1+i:Nat):Int)) s7:=xt
  have b3:ai .sub none true (I N) (.int .i64 1) s7=.ok (I ((N-1:Nat):Int)) s7:=Bw
  have b4:ai .eql (some .int) false (I i) (I ((N-1:Nat):Int)) s7=.ok (.bool (decide (i+1=N))) s7:=by
   rw[az,cI];congr 2;simp only[aFo];omega
  have b5:ai .mul none true (I i) (.int .i64 501) s7=.ok (I ((i*501:Nat):Int)) s7:=O3
  have b6:ai .add none true (I ((i*501:Nat):Int)) (.int .i64 501) s7=.ok (I ((i*501+501:Nat):Int)) s7:=xt
  have b7:Cz false (I ((i*501+501:Nat):Int)) (I rec.length) s7=.ok (I ((min (i*501+501) rec.length:Nat):Int)) s7:=by
   have e:Cz false (I ((i*501+501:Nat):Int)) (I rec.length) s7=.ok (I (if (rec.length:Int)<((i*501+501:Nat):Int)then (rec.length:Int)else ((i*501+501:Nat):Int))) s7:=rfl;rw[e];congr 2;split<;>omega
  have Ff:=Gh (len:=rec.length) (i:=i) (by rw[hN];exact hlt);obtain⟨v2,p1,p2⟩:=hv7.both (n:=rec.length) qE uG (l:=i*501) (h:=min (i*501+501) rec.length) qE qE s7
  have Vw:List.take ((min (i*501+501) rec.length-i*501)*1) (List.drop (i*501*1) (aj rec))=aj (db rec m.last N i).data:=by
   unfold db aj;rw[aGB,aGB,<-aGl,<-aGx]
   congr 1
   by_cases hm:i*501+501<=rec.length
   .rw[aFG hm];congr 1;omega
   .rw[Nat.min_eq_right qE,aEX uG,aEX vR]
  rw[Vw]at p2;obtain⟨v21,v22,v23⟩:=p2.bE
  have nD:bk [.int .i64 0,.bool false,.ae] [(0,1,I ((m.last+1+i:Nat):Int)),(1,1,.bool (decide (i+1=N))),(2,1,v2)] s7=.ok (.agg [I ((m.last+1+i:Nat):Int),.bool (decide (i+1=N)),v2]) s7:=by
   rw[dV];simp[cR,bD,v21,v23]
  have kx:bD [.int .i64 0,.bool false,.ae] 0 [I ((m.last+1+i:Nat):Int),.bool (decide (i+1=N)),v2]=[I ((m.last+1+i:Nat):Int),.bool (decide (i+1=N)),v2]:=ep _ _ rfl;simp only[bF,ah,af,aB,ZM,aq,aER,aEN,aEL,ay,b1,b2,b3,b4,b5,b6,afI,b7,p1,nD,jW g7,aS,aJ,g7,aW,aT,kx];refine⟨⟨rfl,by simp[v22],uG⟩,⟨aer,aer,aer⟩,aer,?_⟩;have k8:Kp [] s (St.set s7 s.nx (.cells [I ((m.last+1+i:Nat):Int),.bool (decide (i+1=N)),v2] 200 false)):=k7.set _ (.inr (aEQ _)) qE;have g8:(St.set s7 s.nx (.cells [I ((m.last+1+i:Nat):Int),.bool (decide (i+1=N)),v2] 200 false)).m.g s.nx=some (.cells [I ((m.last+1+i:Nat):Int),.bool (decide (i+1=N)),v2] 200 false):=ar _ _ _;have k78:Kp [s.nx] s7 (St.set s7 s.nx (.cells [I ((m.last+1+i:Nat):Int),.bool (decide (i+1=N)),v2] 200 false)):=(Kp.refl _ s7).set _ (.inl uG) qE;have hn8:(St.set s7 s.nx (.cells [I ((m.last+1+i:Nat):Int),.bool (decide (i+1=N)),v2] 200 false)).nx=s.nx+1:=hn7
  have p8:Sl (St.set s7 s.nx (.cells [I ((m.last+1+i:Nat):Int),.bool (decide (i+1=N)),v2] 200 false)) [] v2 1 (aj (db rec m.last N i).data):=by
   obtain⟨v3,p3,p4⟩:=((hv.mono hk).dW (Y:=[]) uG).both (n:=rec.length) qE uG (l:=i*501) (h:=min (i*501+501) rec.length) qE qE s7;rw[p1]at p3;cases p3;rw[Vw]at p4;exact p4.mono k8
  generalize St.set s7 s.nx (.cells [I ((m.last+1+i:Nat):Int),.bool (decide (i+1=N)),v2] 200 false)=s8 at*;rw[aK (n:=3) g8 rfl,af];have Xl:(db rec m.last N i).data.length<=501:=acj
  refine(Cq (p:=db rec m.last N i) p8 Xl acj).mono ?_;rintro _ s9 ⟨rfl,k9⟩;have lq:=Piece.qK (db rec m.last N i) Xl;have ZC:(aj (db rec m.last N i).cC).length=512:=by simpa using lq
  have LV:(St.new s9 (.cells (zr 512) 233 false)).m.g s9.nx=some (.cells (zr 512) 233 false):=ao _ _;have EB:bD (zr 512) 0 (aj (db rec m.last N i).cC)=aj (db rec m.last N i).cC:=ep _ _ (by rw[ZC];exact List.length_replicate.symm);simp only[cH,aS,aJ,LV,aW,aT,EB];refine⟨⟨ZC,bI _,uG⟩,?_⟩;have hn9:=k9.nx;have qx:Kp [] s (St.set (St.new s9 (.cells (zr 512) 233 false)) s9.nx (.cells (aj (db rec m.last N i).cC) 233 false)):=((k8.trans k9 uG).new _).set _ (.inr qE) uG;have amV:Kp [] s9 (St.set (St.new s9 (.cells (zr 512) 233 false)) s9.nx (.cells (aj (db rec m.last N i).cC) 233 false)):=((Kp.refl _ s9).new _).set _ (.inr (aEQ _)) uG;have g11:(St.set (St.new s9 (.cells (zr 512) 233 false)) s9.nx (.cells (aj (db rec m.last N i).cC) 233 false)).m.g s9.nx=some (.cells (aj (db rec m.last N i).cC) 233 false):=ar _ _ _;have aos:(St.set (St.new s9 (.cells (zr 512) 233 false)) s9.nx (.cells (aj (db rec m.last N i).cC) 233 false)).nx=s9.nx+1:=rfl;generalize St.set (St.new s9 (.cells (zr 512) 233 false)) s9.nx (.cells (aj (db rec m.last N i).cC) 233 false)=dq at*;have ZN:=Tu.keep qx uG;have Xi:=ZN.2;have g8':=(amV.keep s.nx qE uG).trans ((k9.keep s.nx qE uG).trans g8);simp only[Xi,g8',aq,aEL,ay];refine(Ab ZN h0 qE (n:=m.last+1+i) qE).same ?_;have Bq:bY 512 1 (.ptr s9.nx 0) none none dq=.ok (.slice s9.nx 0 512 512 0) dq:=rfl;simp only[Bq,af,Xi,aq,aEL,ay];have afa:Sl dq Fi (.slice s9.nx 0 512 512 0) 1 (aj (db rec m.last N i).cC):=.inr ⟨s9.nx,0,512,512,0,rfl,by rw[ZC],⟨aEQ _,.inl rfl⟩,.inr ⟨λh=>by have:=XH.lt _ h;omega,qE,_,_,_,g11,qE,O4⟩⟩;refine(vS (XH.keep qx uG) (qx.fresh (hk.fresh hf)) qE afa lq).mono ?_;rintro _ ey ⟨rfl,oM,F',agt,rT⟩;have azy:=oM.nx;have JW:=(hk.trans qx uG).trans oM RQ;have Nz:=λb hb=>(rT b hb).elim (RQ b) λh=>.inr (by have:=qx.nx;omega)
  have anM:r∉Fi:=λh=>(RQ r h).elim hrF λh2=>by have:=h'.1;omega
  have anP:=ZN.keep oM anM
  have aal:(List.range N).drop i=i::(List.range N).drop (i+1):=by
   rw[aFk OZ];simp
  have AH:m.oL rec i=(m.place (m.last+1+i),(db rec m.last N i).cC):=by unfold RingM.oL;rw[hN]
  rw[aal,aFv,AH]at GS;simp only[bf.writes]at GS;refine⟨⟨⟨aer,aer⟩,aer,aer⟩,aer,?_⟩
  by_cases hz:(Di.write ((m.place (m.last+1+i):Nat):Int) (db rec m.last N i).cC).1=0
  .rw[aEW hz]at GS;obtain⟨z1,z2,z3⟩:=zw hz;have a3:∀s,jX .add .i64 (i:Int) .i64 1 s=.ok (I ((i+1:Nat):Int)) s:=λs=>by rw[cO,bz qE];rfl
   simp only[hz,az,fh,aFZ,aFh,af,ag,aEM,aFa,a3];exact next (fu-1) _ _ qE ⟨i+1,_,F',qE,rfl,JW,agt,Nz,by rw[z1];exact apH,by rw[z2];simp;omega,GS⟩
  .rw[aET hz]at GS;simp only[az,fh,hz,aGv,aFf,af,ag,aFm];refine⟨_,GS,by rw[aET hz],JW.mono (λq hq=>.inl TN),⟨F',agt,Nz⟩,?_⟩;rw[aET hz];exact anP
 .have a1:ai .lss none false (I i) (I N) s=.ok (.bool false) s:=by rw[az,c8,aEO qE]
  have hiN:i=N:=qE
  subst hiN;have anJ:=Tu.2;simp only[a1,af,ag,aEM,aFa];have Rv:(List.range i).drop i=[]:=aFu uG;rw[Rv]at GS;have a2:ai .add none false (I m.last) (I i) s=.ok (I ((m.last+i:Nat):Int)) s:=xt
  have c1:bD [CV.ptr a 0,I m.first,I m.count,I m.base,I m.last,I m.top] 4 [I ((m.last+i:Nat):Int)]=[CV.ptr a 0,I m.first,I m.count,I m.base,I ((m.last+i:Nat):Int),I m.top]:=rfl;have c2:bD [CV.ptr a 0,I m.first,I m.count,I m.base,I ((m.last+i:Nat):Int),I m.top] 5 [I ((m.last+i:Nat):Int)]=[CV.ptr a 0,I m.first,I m.count,I m.base,I ((m.last+i:Nat):Int),I ((m.last+i:Nat):Int)]:=rfl;simp only[bF,ah,af,aB,anJ,aq,aER,aEN,aEL,ay,a2,oK,aJ,aW,jc,c1,ar,c2,set_set];refine⟨⟨rfl,rfl,uG⟩,⟨rfl,rfl,uG⟩,(0,Di),GS,rfl,(hk.mono λq hq=>.inl TN).set _ (.inl uG) Tu.1,⟨Fi,XH.keep (X:=[r]) ((Kp.refl _ s).set _ (.inl uG) Tu.1) (λb hb=>by simp;exact λe=>(RQ r (e▸hb)).elim hrF λh2=>by have:=h'.1;omega),RQ⟩,?_⟩;exact⟨Tu.1,ar _ _ _⟩
end
end
