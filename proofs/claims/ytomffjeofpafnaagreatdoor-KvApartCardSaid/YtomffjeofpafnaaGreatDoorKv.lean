import Derived.Test.YtomffjeofpafnaaGreatDoorLawB
import Derived.Test.YtomffjeofpafnaaGreatDoorWk
namespace Lim
open Go
noncomputable section
set_option linter.defProp false
section
variable {k:cn}{A B L:List bq}
abbrev Nm:=Int×cn
structure ChM where
 sp:Int
 key:cn
 val:List UInt8
 gone:Bool
def ChM.nm (c:ChM):Nm:=(c.sp,c.key)
def uC (p:Nm):Prop:=(0<=p.1/\p.1<256)/\p.2.length<=47
def ChM.ok (c:ChM):Prop:=uC c.nm/\c.val.length<=8192/\(c.gone=true->c.val=[])
instance (p:Nm):Decidable (uC p):=by unfold uC;infer_instance
instance (c:ChM):Decidable c.ok:=by unfold ChM.ok;infer_instance
def oH (p:Nm):cn:=UInt8.ofNat p.1.toNat::p.2
def ET (L:List bq)(c:ChM):List bq:=if c.gone=true then rp L (oH c.nm)else mR L (oH c.nm) c.val
def iA (L:List bq)(cs:List ChM):List bq:=cs.foldl ET L
def UO {p q:Nm}(hp:uC p)(hq:uC q)(h:oH p=oH q):p=q:=by
 obtain⟨a,k⟩:=p;obtain⟨b,l⟩:=q;obtain⟨⟨h1,h2⟩,_⟩:=hp;obtain⟨⟨h3,h4⟩,_⟩:=hq;unfold oH at h;dsimp only at*;rw[aGn]at h;obtain⟨h5,rfl⟩:=h;have h6:=congrArg UInt8.toNat h5;rw[UInt8.toNat_ofNat',UInt8.toNat_ofNat']at h6
 congr 1
 omega
def BZ (L:List bq)(key:cn):fE (rp L key) key=none:=by
 unfold fE rp;rw[aHB,tP (p:=λx=>decide (eQ x.1 key)) λx hx=>?_,tP (p:=λx=>decide (eQ key x.1)) λx hx=>?_]
 .rfl
 all_goals
  have:x.1=key:=O5
  rw[this]
  simpa using jM key
def AS (L:List bq)(key k2:cn)(h:key≠k2):fE (rp L key) k2=fE L k2:=by
 have h1:=sW L key k2 [] h;rw[<-h1];unfold fE rp mR;rw[aHB,aHB,aHk,aEO h]
def ri (L:List bq)(c:ChM)(key:cn):fE (ET L c) key=if key=oH c.nm then (if c.gone=true then none else some c.val)else fE L key:=by
 unfold ET
 by_cases h:key=oH c.nm
 .rw[aEW h,h]
  split
  .exact BZ _ _
  .exact BY _ _ _
 .rw[aET h]
  split
  .exact AS _ _ _ (aFL h)
  .exact sW _ _ _ _ (aFL h)
def Alike (k:cn)(v:List UInt8)(A B:List bq):Prop:=fE A k=some v/\∀key,key≠k->fE A key=fE B key
def Alike.all {v:List UInt8}(h:Alike k v A B)(cs:List ChM)(hc:∀c∈cs,oH c.nm≠k):Alike k v (iA A cs) (iA B cs):=by
 induction cs generalizing A B with
 |nil=>exact h
 |cons c r ih=>
  refine ih (A:=ET A c) (B:=ET B c) ⟨?_,λkey hk=>?_⟩ λd hd=>hc d (by simp[hd])
  .rw[ri,aET (aFL (hc c uG))];exact h.1
  .rw[ri,ri,h.2 key hk]
def zq (h:∀x∈A,eQ k x.1):fE A k=none:=by
 unfold fE;rw[List.find?_eq_none.2 λx hx=>by simpa using (h x hx).ne.symm];rfl
def I5 (hA:nq A)(hB:nq B)(h:∀k,fE A k=fE B k):A=B:=by
 induction A generalizing B with
 |nil=>
  cases B with
  |nil=>rfl
  |cons b r=>have:=h b.1;simp[fE]at this
 |cons a r ih=>
  cases B with
  |nil=>have:=h a.1;simp[fE]at this
  |cons b t=>
   unfold nq at hA hB;rw[aHs]at hA hB;have ga:∀k,fE (a::r) k=if a.1=k then some a.2 else fE r k:=λk=>by unfold fE;rw[aHk];by_cases e:a.1=k<;>simp[e]
   have gb:∀k,fE (b::t) k=if b.1=k then some b.2 else fE t k:=λk=>by unfold fE;rw[aHk];by_cases e:b.1=k<;>simp[e]
   have na:=zq hA.1;have nb:=zq hB.1
   have tN:a.1=b.1:=by
    rcases Decidable.em (eQ a.1 b.1)with hl|hl
    .have:=h a.1;rw[ga,gb,aEW rfl,aET (aFL hl.ne),zq λx hx=>jl hl (hB.1 x hx)]at this;cases this
    .rcases pv.1 (show lp b.1 a.1 from hl)with hl|hl
     .have:=h b.1;rw[ga,gb,aEW rfl,aET (aFL hl.ne),zq λx hx=>jl hl (hA.1 x hx)]at this;cases this
     .exact hl.symm
   have hv:=h a.1;rw[ga,gb,aEW rfl,aEW tN.symm]at hv;have aqq:a=b:=by cases a;cases b;simp_all
   subst aqq
   congr 1
   refine ih hA.2 hB.2 λk=>?_;have:=h k;rw[ga,gb]at this
   by_cases e:a.1=k
   .rw[<-e,na,nb]
   .rwa [aET e,aET e]at this
def Small (L:List bq):Prop:=∀p∈L,p.2.length<=8192
def Small.do (h:Small L){c:ChM}(hc:c.ok):Small (ET L c):=by
 intro p hp;unfold ET rp mR at hp
 split at hp
 .rcases aEY.1 hp with hp|hp<;>exact h p (aGm.1 hp).1
 .rcases aEY.1 hp with hp|hp
  .exact h p (aGm.1 hp).1
  .rcases aEP.1 hp with rfl|hp
   .exact hc.2.1
   .exact h p (aGm.1 hp).1
def Small.get (h:Small L)(k:cn):((fE L k).getD []).length<=8192:=by
 unfold fE;cases hf:L.find? (λx=>decide (x.1=k))with
 |none=>simp
 |some p=>exact h p (List.mem_of_find?_eq_some hf)
def abc (L:List bq)(c:ChM):(ET L c).length<=L.length+1:=by
 unfold ET
 split
 .have:=Sv L (oH c.nm);omega
 .exact P3 _ _ _
def rn (L:List bq)(cs:List ChM)(i:Nat)(hi:i<cs.length):iA L (cs.take (i+1))=ET (iA L (cs.take i)) cs[i]:=by
 unfold iA;rw[aFe hi,aGS];rfl
def NN (L:List bq)(a b:List ChM):iA L (a++b)=iA (iA L a) b:=by unfold iA;rw[aGS]
abbrev xW:=List (Nm×Nat)
def qW (m:xW)(p:Nm):Option Nat:=match m with|[]=>none|(q,n)::r=>if p=q then some n else qW r p
def wz (m:xW)(p:Nm)(x:Nat):xW:=match m with|[]=>[(p,x)]|(q,n)::r=>if p=q then (p,x)::r else (q,n)::wz r p x
def Gx (m:xW)(p q:Nm)(x:Nat):qW (wz m p x) q=if q=p then some x else qW m q:=by
 induction m with
 |nil=>by_cases h:q=p<;>simp[wz,qW,h]
 |cons a r ih=>
  obtain⟨a,n⟩:=a;simp only[wz]
  by_cases h:p=a
  .subst h;rw[aEW rfl];simp only[qW];by_cases h2:q=p<;>simp[h2]
  .rw[aET h];simp only[qW,ih]
   by_cases h2:q=a
   .subst h2;rw[aEW rfl,aET (aFL h),aEW rfl]
   .rw[aET h2,aET h2]
def uj (L:List bq)(m:xW)(p:Nm):Nat:=(qW m p).getD ((fE L (oH p)).getD []).length
def oh (L:List bq)(m:xW):List ChM->Nat
 |[]=>0
 |c::r=>(24+2*cq c.val.length+2*cq (uj L m c.nm))+oh L (wz m c.nm c.val.length) r
def ma {n:Nat}(h:n<=8192):cq n<=18:=acU
end
set_option maxRecDepth 100000
abbrev UP:kj:=.struct (.cons 0 1 false .int (.cons 1 1 false .str .nil))
def uo (p:Nm):CV:=.agg [I p.1,.str p.2]
def lS (c:ChM):List CV:=[I c.sp,.str c.key,.str c.val,.bool c.gone]
def hU (cs:List ChM):List CV:=(cs.map lS).flatten
def HL (cs:List ChM):∀x∈cs.map lS,x.length=4:=λx hx=>by obtain⟨c,_,rfl⟩:=aFq.1 hx;rfl
def jj (cs:List ChM):(hU cs).length=cs.length*4:=by
 have:=fJ (HL cs)
 rwa [aFK]at this
def SF (p q:Nm):lO UP (uo p) (uo q)=some (decide (p=q)):=by
 obtain⟨a,k⟩:=p;obtain⟨b,l⟩:=q
 have e:decide ((a,k)=(b,l))=(decide (a=b)&&k==l):=by
  by_cases h1:a=b<;>by_cases h2:k=l<;>simp[h1,h2]
 rw[e]
 by_cases h1:a=b<;>by_cases h2:k=l<;>simp[uo,lO,yX,iB,andThen,h1,h2,bH]
def GQ (p:Nm):rL UP (uo p)=true:=by
 unfold rL;rw[SF];simp[Y5]
def Ie (st:St)(b:Nat)(m:xW):Prop:=∃es c,st.m.g b=some (.map es c)/\es.map (λe=>(e.1,e.2.1))=List.map (λp:Nm×Nat=>(uo p.1,I p.2)) m
def HM (p:Nm)(x:Nat):∀(m:xW) (es:List eS) (j:Nat),es.map (λe=>(e.1,e.2.1))=List.map (λp:Nm×Nat=>(uo p.1,I p.2)) m->
 (qW m p=none/\jP UP (uo p) es j=some none/\wz m p x=m++[(p,x)])\/∃(i n bn:Nat),qW m p=some n/\jP UP (uo p) es j=some (some (j+i,I n))/\es[i]?=some (uo p,I n,bn)/\wz m p x=List.set m i (p,x):=by
 intro m
 induction m with
 |nil=>intro es j h;cases es with
  |nil=>exact .inl ⟨rfl,rfl,rfl⟩
  |cons e es=>simp at h
 |cons a r ih=>
  intro es j h;obtain⟨a,n⟩:=a;cases es with
  |nil=>simp at h
  |cons e es=>
   obtain⟨e1,e2,bn⟩:=e;simp only[aFv,aGn,aGA]at h;obtain⟨⟨rfl,rfl⟩,h3⟩:=h;have e0:jP UP (uo p) ((uo a,I n,bn)::es) j=Option.rec none (λb=>bH b (some (some (j,I n))) (jP UP (uo p) es (Nat.succ j))) (lO UP (uo p) (uo a)):=rfl;rw[e0,SF];simp only[aP,aGa,qW,wz]
   by_cases hp:p=a
   .subst hp;right;refine⟨0,n,bn,aEW rfl,aEW rfl,rfl,aEW rfl⟩
   .rw[aET hp,aET hp,aET hp];rcases ih es (j+1) h3 with⟨h1,h2,h4⟩|⟨i,n',OC,h1,h2,h4,h5⟩
    .exact .inl ⟨h1,h2,by rw[h4];rfl⟩
    .exact .inr ⟨i+1,n',OC,h1,by rw[Nat.succ_eq_add_one,h2];congr 3;omega,h4,by rw[h5];rfl⟩
def Ie.lookup {st:St}{b:Nat}{m:xW}(h:Ie st b m)(p:Nm):gN UP (.int .i64 0) true (.map b) (uo p) st=.ok (.tuple [I (((qW m p).getD 0:Nat):Int),.bool (qW m p).isSome]) st:=by
 obtain⟨es,c,h1,h2⟩:=h;unfold gN;have e1:oo (.map b) st=none:=by simp[oo,h1]
 have e2:vJ (.map b) st=some es:=by simp[vJ,h1]
 rw[GQ,aP,aEW rfl,e1,e2];rcases HM p 0 m es 0 h2 with⟨h3,h4,_⟩|⟨i,n,bn,h3,h4,_⟩
 .simp only[h3,h4];simp
 .simp only[h3,h4];simp
def Ie.update {st:St}{b:Nat}{m:xW}(h:Ie st b m)(p:Nm)(x:Nat):∃blk,dO UP (.map b) (uo p) (I x) st=.ok .undef (St.set st b blk)/\Ie (St.set st b blk) b (wz m p x):=by
 obtain⟨es,c,h1,h2⟩:=h;unfold dO;rw[GQ,aP,aEW rfl];simp only[h1];rcases HM p x m es 0 h2 with⟨h3,h4,h5⟩|⟨i,n,bn,h3,h4,h6,h5⟩
 .simp only[h4,dI];refine⟨.map (es++[(uo p,I x,c)]) (c+1),rfl,es++[(uo p,I x,c)],c+1,ar _ _ _,?_⟩;rw[h5,aFR,aFR,h2];rfl
 .simp only[h4,aER,xR,h6,tK];rw[show uJ (uo p) (uo p)=true by simp[uJ,zN,zM,uo],aP,aEW rfl];refine⟨.map (es.set i (uo p,I x,bn)) c,rfl,es.set i (uo p,I x,bn),c,ar _ _ _,?_⟩;rw[h5,List.map_set,List.map_set,h2]
section
variable {st st':St}
def K0 (p:Nm):R 81 [uo p] st λv s=>v=.bool (decide (uC p))/\Kp [] st s:=by
 refine bP ?_;rw[w81,bV];refine⟨rfl,?_⟩;unfold uo;rw[aT];have k1:Kp [] st (St.new st (.cells [I p.1,.str p.2] 166 false)):=(Kp.refl [] st).new _;have g1:(St.new st (.cells [I p.1,.str p.2] 166 false)).m.g st.nx=some (.cells [I p.1,.str p.2] 166 false):=ao _ _;generalize St.new st (.cells [I p.1,.str p.2] 166 false)=s1 at*;have e3:ai .leq none true (I p.2.length) (.int .i64 47) s1=.ok (.bool (decide (p.2.length<=47))) s1:=IN
 unfold uC;simp only[fl,gQ,ah,af,aB,g1,aq,aER,aEL,ay,az,sG,aG,aFm]
 by_cases h1:0<=p.1
 .simp only[aEV h1,bh,af,aB,g1,aq,aEL,ay,az,c8,aF,aFm,aG]
  by_cases h2:p.1<256
  .simp only[aEV h2,bh,af,aB,g1,aq,aEN,aEL,ay,fg,e3,aFm];exact⟨by simp[h1,h2],k1⟩
  .simp only[aEO h2,bS,af,aEM,aFa];exact⟨by simp[h2],k1⟩
 .simp only[aEO h1,bS,af,aF,aEM,aFa,aG];exact⟨by simp[h1],k1⟩
def xx {p:Nm}(h:uC p):R 82 [uo p] st λv s=>v=.str (oH p)/\Kp [] st s:=by
 refine bP ?_;rw[w82,bV];refine⟨rfl,?_⟩;unfold uo;rw[aT];have k1:Kp [] st (St.new st (.cells [I p.1,.str p.2] 166 false)):=(Kp.refl [] st).new _;have g1:(St.new st (.cells [I p.1,.str p.2] 166 false)).m.g st.nx=some (.cells [I p.1,.str p.2] 166 false):=ao _ _;generalize JN:St.new st (.cells [I p.1,.str p.2] 166 false)=s1 at*;have n1:s1.nx=st.nx+1:=by rw[<-JN];rfl
 obtain⟨⟨h1,h2⟩,h3⟩:=h
 have hb:cW (.toInt .u8) (I p.1) s1=.ok (bQ (UInt8.ofNat p.1.toNat)) s1:=by
  have:=Mw p.1.toNat .i64 s1;rw[Int.toNat_of_nonneg h1,aGz qE]at this;exact this
 simp only[fl,ah,af,aB,g1,aq,aER,aEL,ay,hb];rw[oz (k:=1) rfl rfl rfl,aS];have k2:Kp [] s1 (St.new s1 (.cells [bQ (UInt8.ofNat p.1.toNat)] 5 false)):=(Kp.refl [] s1).new _;have g2:(St.new s1 (.cells [bQ (UInt8.ofNat p.1.toNat)] 5 false)).m.g s1.nx=some (.cells [bQ (UInt8.ofNat p.1.toNat)] 5 false):=ao _ _;have g3:(St.new s1 (.cells [bQ (UInt8.ofNat p.1.toNat)] 5 false)).m.g st.nx=_:=(k2.keep st.nx qE uG).trans g1;have sl:Sl (St.new s1 (.cells [bQ (UInt8.ofNat p.1.toNat)] 5 false)) [] (.slice s1.nx 0 1 1 0) 1 (aj [UInt8.ofNat p.1.toNat]):=.inr ⟨s1.nx,0,1,1,0,rfl,rfl,⟨aEQ _,.inl rfl⟩,.inr ⟨uG,uG,_,_,_,g2,uG,rfl⟩⟩;have e:CV.cN (bQ (UInt8.ofNat p.1.toNat))=[bQ (UInt8.ofNat p.1.toNat)]:=rfl;rw[e];generalize St.new s1 (.cells [bQ (UInt8.ofNat p.1.toNat)] 5 false)=s2 at*;rw[sl.str,af,g3,aq];simp only[aEN,aEL,ay]
 have ea:ai .add none false (.str [UInt8.ofNat p.1.toNat]) (.str p.2) s2=.ok (.str (oH p)) s2:=by
  rw[eA];unfold sF;rw[aEW vR];rfl
 rw[ea,af];exact⟨rfl,k1.trans k2 uG⟩
def Lf {n:Nat}(hn:n<=4000000000):R 127 [I n] st λv s=>v=I (cq n)/\s=st:=by
 refine bP ?_;rw[akS];have e1:ai .leq none true (I n) (.int .i64 64) st=.ok (.bool (decide (n<=64))) st:=IN
 have e2:ai .add none true (I n) (.int .i64 480) st=.ok (I ((n+480:Nat):Int)) st:=xt
 have e3:ai .sub none true (I ((n+480:Nat):Int)) (.int .i64 1) st=.ok (I ((n+479:Nat):Int)) st:=Bw
 have e4:ai .quo none true (I ((n+479:Nat):Int)) (.int .i64 480) st=.ok (I (((n+479)/480:Nat):Int)) st:=by
  have e0:ai .quo none true (I ((n+479:Nat):Int)) (.int .i64 480) st=.ok (I (IntKind.i64.wrap (Int.tdiv ((n+479:Nat):Int) 480))) st:=rfl;have e1:Int.tdiv ((n+479:Nat):Int) 480=(((n+479)/480:Nat):Int):=rfl;rw[e0,e1,bz qE]
 rw[e1,af,ag];unfold cq
 by_cases h:n<=64
 .rw[aEV h,aEW rfl,aEW h];exact⟨rfl,rfl⟩
 .rw[aEO h,aET u7,e2,af,e3,af,e4,af,aET h];exact⟨rfl,rfl⟩
def GC (c:ChM):Bool:=decide c.ok
def KZ (c:ChM):GC c=(decide (uC c.nm)&&(decide (c.val.length<=8192)&&(!c.gone||decide (c.val=[])))):=by
 unfold GC ChM.ok;rw[aGU];simp only[aFl,aFO,aGa,Bool.not_eq_eq_eq_not,aFh];rcases Bool.eq_false_or_eq_true c.gone with h|h<;>simp[h]
def YY (c:ChM):R 165 [.agg (lS c)] st λv s=>v=.bool (GC c)/\Kp [] st s:=by
 refine bP ?_;rw[akn,bV];refine⟨rfl,?_⟩;unfold lS;rw[aT];generalize hl:[I c.sp,CV.str c.key,.str c.val,.bool c.gone]=l;have l0:l[0]?=some (I c.sp):=O6
 have l1:l[1]?=some (.str c.key):=O6
 have l2:l[2]?=some (.str c.val):=O6
 have l3:l[3]?=some (.bool c.gone):=O6
 have k1:Kp [] st (St.new st (.cells l 159 false)):=(Kp.refl [] st).new _;have g1:(St.new st (.cells l 159 false)).m.g st.nx=some (.cells l 159 false):=ao _ _;have n1:(St.new st (.cells l 159 false)).nx=st.nx+1:=rfl;generalize St.new st (.cells l 159 false)=s1 at*;have hb:bk [.int .i64 0,.str []] [(0,1,I c.sp),(1,1,.str c.key)] s1=.ok (uo c.nm) s1:=rfl;simp only[fl,ah,af,aB,g1,aq,aER,l0,l1,ay,hb];refine(K0 c.nm).mono ?_;rintro _ s2 ⟨rfl,k2⟩;have g2:=(k2.keep st.nx qE uG).trans g1;have e3:ai .leq none true (I c.val.length) (.int .i64 8192) s2=.ok (.bool (decide (c.val.length<=8192))) s2:=IN
 have e4:ai .eql (some .str) true (.str c.val) (.str []) s2=.ok (.bool (decide (c.val=[]))) s2:=by rw[eA,lA]
 rw[KZ];have K:=k1.trans k2 uG
 by_cases h1:uC c.nm
 .simp only[aEV h1,gQ,aG,aFm,bh,af,ah,aB,g2,aq,aER,l2,ay,fg,e3,aF]
  by_cases h2:c.val.length<=8192
  .simp only[aEV h2,aFm,bh,af,aB,g2,aq,l3,ay,cU,aG];cases hg:c.gone
   .simp only[aFf,aFh,aFm,aFa,aEM,bS,af,aF];exact⟨uG,K⟩
   .simp only[aFh,aFf,aFa,aEM,bh,af,aB,g2,aq,l2,ay,e4,aF];exact⟨uG,K⟩
  .simp only[aEO h2,aFa,aEM,bS,af,oQ,bS];exact⟨uG,K⟩
 .simp only[aEO h1,gQ,aG,aFa,aEM,af,aF];exact⟨uG,K⟩
end
section
variable {X:List Nat}{v:CV}{cs:List ChM}{K:CV->Prop}{σ:Nat}
def UU {l row:List CV}{p:Nat}(h:∀o x,row[o]?=some x->l[p+o]?=some x)(h0:0<row.length):gV l p row.length=some row:=by
 have h1:=λo ho=>h o _ (aES ho);have h2:=h1 (row.length-1) qE;obtain⟨h3,_⟩:=aFb.1 h2;unfold gV;rw[aEW qE]
 congr 1
 refine List.ext_getElem vR λo a b=>?_;have h4:=h1 o b;rw[List.getElem_take,List.getElem_drop];obtain⟨_,h5⟩:=aFb.1 h4;exact h5
def SE {st:St}(hs:Sl st X v 4 (hU cs)){i:Nat}(hi:i<cs.length)(hK:K (.agg (lS cs[i]))):hO 4 4 v (I i) st K:=
 Sl.hO (L:=cs.map lS) hs qE (HL cs) O1 _ (by rw[aHc];exact hK)
structure oF (κ τ:Nat)(π:PI)(st:St)(L Lk:List bq)(T N fr:Nat):Prop where
 tr:ir τ π st L Lk T N fr
 get:st.m.g κ=some (.cells [.ptr τ 0,I ((N/8:Nat):Int)] 163 false)
 lt:κ<st.nx
 not:κ∉own τ π
section
variable {κ τ:Nat} {π:PI} {st st':St} {L Lk:List bq} {T N fr:Nat}
def oF.off (h:oF κ τ π st L Lk T N fr)(hk:Kp X st st')(hx:∀b∈κ::own τ π,b∉X):oF κ τ π st' L Lk T N fr:=
 ⟨h.tr.off hk λb hb=>hx b O2,(hk.keep κ h.lt (hx κ uG)).trans h.get,aFg h.lt hk.nx,h.not⟩
def oF.still (h:oF κ τ π st L Lk T N fr)(hk:Kp [] st st'):oF κ τ π st' L Lk T N fr:=h.off hk uG
def oF.tau (h:oF κ τ π st L Lk T N fr)(hK:K (.ptr τ 0)):us (aC (.ptr κ 0) st) K:=by
 rw[aB,h.get,aq];exact hK
def xg (st:St)(σ:Nat)(n:Nat):Prop:=st.m.g σ=some (.cells [I n] 3 false)
def Ui {c:ChM}{sum TQ:Nat}(hs:xg st σ sum)(hlt:σ<st.nx)(h1:sum<=1000000000)(h2:TQ<=8192)(h3:c.val.length<=8192):R 126 [.agg (lS c),I TQ,.ptr σ 0] st λv s=>Kp [σ] st s/\xg s σ (sum+(24+2*cq c.val.length+2*cq TQ)):=by
 refine bP ?_;rw[akT,bV];refine⟨rfl,?_⟩;rw[aT];unfold xg at*;generalize hl:lS c=l;have l2:l[2]?=some (.str c.val):=O6
 have k1:Kp [] st (St.new st (.cells l 159 false)):=(Kp.refl [] st).new _;have g1:(St.new st (.cells l 159 false)).m.g st.nx=some (.cells l 159 false):=ao _ _;have n1:=k1.nx;have s1g:=(k1.keep σ hlt uG).trans hs;generalize St.new st (.cells l 159 false)=s1 at*;have p1:=ma h3;have p2:=ma h2;have e7:ai .mul none true (.int .i64 2) (I (cq c.val.length)) s1=.ok (I ((2*cq c.val.length:Nat):Int)) s1:=by rw[az,je,bz qE];congr 2
 have e8:ai .add none true (.int .i64 24) (I ((2*cq c.val.length:Nat):Int)) s1=.ok (I ((24+2*cq c.val.length:Nat):Int)) s1:=Oh
 have Sm:ai .mul none true (.int .i64 2) (I (cq TQ)) s1=.ok (I ((2*cq TQ:Nat):Int)) s1:=by rw[az,je,bz qE];congr 2
 have e11:ai .add none false (I ((24+2*cq c.val.length:Nat):Int)) (I ((2*cq TQ:Nat):Int)) s1=.ok (I ((24+2*cq c.val.length+2*cq TQ:Nat):Int)) s1:=Oh
 have e12:ai .add none false (I sum) (I ((24+2*cq c.val.length+2*cq TQ:Nat):Int)) s1=.ok (I ((sum+(24+2*cq c.val.length+2*cq TQ):Nat):Int)) s1:=Oh
 rw[bG,aB,s1g,aq];simp only[aEL,ay];rw[ah,af,aB,g1,aq,aER,l2,ay,fg,af];refine(Lf qE).same ?_;rw[e7,af,e8,af];refine(Lf qE).same ?_;rw[Sm,af,e11,af,e12,af,aJ,s1g,aW];refine⟨⟨rfl,rfl,uG⟩,⟨⟨?_,?_,aer⟩,aer,aer⟩,aer,?_⟩
 .rw[aB,s1g];rfl
 .rw[aB,s1g];rfl
 .refine⟨(k1.mono uG).set _ (.inl uG) qE,?_⟩;rw[ar];rfl
def Wk (κ τ σ μ:Nat)(π:PI)(v:CV)(cs:List ChM)(L Lk:List bq)(T N fr:Nat)(st:St)(fu:Nat)(vs:List CV)(s:St):Prop:=
 ∃(i sum:Nat) (m:xW),fu+i=cs.length/\vs=[.ptr κ 0,.func (.func 126) [] [.ptr σ 0],.map μ,v,I cs.length,I i]/\Kp [σ] st s/\xg s σ sum/\sum<=1000*i/\Ie s μ m/\μ<s.nx/\sum+oh L m (cs.drop i)=oh L [] cs/\∀p n,qW m p=some n->n<=8192
def Wj (κ σ μ:Nat)(v:CV)(cs:List ChM)(L:List bq)(m:xW)(c:ChM)(b1 b2 i:Nat)(s0:St)(vs:List CV)(s:St):Prop:=
 vs=[.ptr κ 0,.func (.func 126) [] [.ptr σ 0],.map μ,.ptr b1 0,.ptr b2 0,I (uj L m c.nm),v,I cs.length,I i]/\Kp [] s0 s
set_option maxHeartbeats 1000000 in
def VN (h:oF κ τ π st L Lk T N fr)(hL:Small L)(hv:Sl st [] v 4 (hU cs))(hn:cs.length<=5000)(hs:xg st σ 0)(hσ:σ<st.nx)(hσn:σ∉κ::own τ π)(hvσ:Sl st [σ] v 4 (hU cs)):R 125 [.ptr κ 0,v,.func (.func 126) [] [.ptr σ 0]] st λy s=>Kp [σ] st s/\(((∀c∈cs,c.ok)/\y=I 0/\xg s σ (oh L [] cs))\/((∃c∈cs,¬c.ok)/\y=I 1)):=by
 refine bP ?_;rw[akU,cV];simp only[aL,aM];rw[hv.len cs.length (jj _) qE,af];refine bN (λfu vs s=>∃i:Nat,fu+i=cs.length/\vs=[.ptr κ 0,v,.func (.func 126) [] [.ptr σ 0],v,I cs.length,I i]/\Kp [] st s/\∀c∈cs.take i,c.ok) ?_ (n:=cs.length) ⟨0,rfl,rfl,Kp.refl _ _,uG⟩;rintro fu vs s K ⟨i,hi,rfl,hk,mU⟩ next;simp only[aL,aM];rw[dC,af,ag]
 by_cases hc:i<cs.length
 .rw[aEV hc,aEW rfl];refine SE (hv.mono hk) hc ?_;refine mH rfl rfl rfl ?_;have k1:Kp [] s (St.new s (.cells (lS cs[i]) 159 false)):=(Kp.refl [] s).new _;have g1:(St.new s (.cells (lS cs[i]) 159 false)).m.g s.nx=some (.cells (lS cs[i]) 159 false):=ao _ _;generalize St.new s (.cells (lS cs[i]) 159 false)=s1 at*;rw[aK (n:=4) g1 rfl,af];refine(YY cs[i]).mono ?_;rintro _ s2 ⟨rfl,k2⟩;have K2:=(hk.trans k1 uG).trans k2 uG;rw[cU,af,ag]
  by_cases hm:cs[i].ok
  .have AK:GC cs[i]=true:=aEV hm;rw[AK,aET u7,gH i qE,af];refine next (fu-1) _ _ qE ⟨i+1,qE,rfl,K2,λc Nu=>?_⟩;rw[aFe hc,aEY]at Nu;rcases Nu with h1|h1
   .exact mU c h1
   .have:c=cs[i]:=by simpa using h1
    rw[this];exact hm
  .have AK:GC cs[i]=false:=aEO hm;rw[AK,aEW u7];exact⟨K2.mono uG,.inr ⟨⟨_,aFj hc,hm⟩,aer⟩⟩
 .rw[aEO hc,aET u7];have eU:∀c∈cs,c.ok:=by rwa [aEX qE]at mU
  rw[iO,aS,cV];simp only[aL,aM];rw[(hv.mono hk).len cs.length (jj _) qE,af];have k6:Kp [] s (St.new s (.map [] 0)):=(Kp.refl [] s).new _;have g6:(St.new s (.map [] 0)).m.g s.nx=some (.map [] 0):=ao _ _;have n6:(St.new s (.map [] 0)).nx=s.nx+1:=rfl;generalize St.new s (.map [] 0)=s6 at*;have K6:=hk.trans k6 uG;have nk:=hk.nx;refine bN (Wk κ τ σ s.nx π v cs L Lk T N fr st) ?_ (n:=cs.length) ⟨0,0,[],rfl,rfl,K6.mono uG,(K6.keep σ hσ uG).trans hs,qE,⟨[],0,g6,rfl⟩,qE,uG,λp n h=>by simp[qW]at h⟩;rintro fu vs s8 K' ⟨i,sum,m,hi,rfl,k8,Ng,lq,hm,Ow,Ex,Ey⟩ next';simp only[aL,aM];rw[dC,af,ag]
  by_cases hc:i<cs.length
  .rw[aEV hc,aEW rfl];have wR:=eU _ (aFj hc);refine SE (hvσ.mono k8) hc ?_;generalize EM:cs[i]=c at*;refine mH rfl rfl rfl ?_;have qh:Kp [] s8 (St.new s8 (.cells (lS c) 159 false)):=(Kp.refl [] s8).new _;have LV:(St.new s8 (.cells (lS c) 159 false)).m.g s8.nx=some (.cells (lS c) 159 false):=ao _ _;have On:(St.new s8 (.cells (lS c) 159 false)).nx=s8.nx+1:=rfl;generalize St.new s8 (.cells (lS c) 159 false)=s10 at*
   have f0:∀{s:St} (hg:s.m.g s8.nx=some (.cells (lS c) 159 false)) {K:CV->Prop},K (I c.sp)->fl 0 (.ptr s8.nx 0) s K:=λ{s} hg {K} hK=>by
    unfold fl;rw[ah,af,aB,hg,aq];exact hK
   have f1:∀{s:St} (hg:s.m.g s8.nx=some (.cells (lS c) 159 false)) {K:CV->Prop},K (.str c.key)->fl 1 (.ptr s8.nx 0) s K:=λ{s} hg {K} hK=>by
    unfold fl;rw[ah,af,aB,hg,aq];exact hK
   have f2:∀{s:St} (hg:s.m.g s8.nx=some (.cells (lS c) 159 false)) {K:CV->Prop},K (.str c.val)->fl 2 (.ptr s8.nx 0) s K:=λ{s} hg {K} hK=>by
    unfold fl;rw[ah,af,aB,hg,aq];exact hK
   refine f0 LV ?_;refine f1 LV ?_;have hb:bk [.int .i64 0,.str []] [(0,1,I c.sp),(1,1,.str c.key)] s10=.ok (.agg [I c.sp,.str c.key]) s10:=rfl;rw[hb,af];refine mH rfl rfl rfl ?_;have qg:Kp [] s10 (St.new s10 (.cells [I c.sp,.str c.key] 166 false)):=(Kp.refl [] s10).new _;have rj:(St.new s10 (.cells [I c.sp,.str c.key] 166 false)).m.g s10.nx=some (.cells [I c.sp,.str c.key] 166 false):=ao _ _;have Om:(St.new s10 (.cells [I c.sp,.str c.key] 166 false)).nx=s10.nx+1:=rfl;generalize St.new s10 (.cells [I c.sp,.str c.key] 166 false)=bO at*;have xN:=qh.trans qg uG;have g11:=(qg.keep s8.nx qE uG).trans LV;have TL:=k8.trans xN uG;have n8:=k8.nx
   have m12:Ie bO s.nx m:=by
    obtain⟨es,cl,h1,h2⟩:=hm;exact⟨es,cl,(xN.keep _ Ow uG).trans h1,h2⟩
   have adB:xg bO σ sum:=(xN.keep σ qE uG).trans Ng;rw[aK (n:=2) rj rfl,af,show CV.agg [I c.sp,.str c.key]=uo c.nm from rfl,m12.lookup,af,aE,af,aN,aE,af];refine jO (Wj κ σ s.nx v cs L m c s8.nx s10.nx i bO) ?_ ?_
   .intro Na afS;rw[cU,af,ag];cases hg:qW m c.nm with
    |some w=>
     rw[aHr,aET u7];exact afS _ _ ⟨by unfold uj;rw[hg];rfl,Kp.refl _ _⟩
    |none=>
     rw[Option.isSome_none,aEW u7,bG]
     have h12:=h.off TL λb hb hh=>by
      have:b=σ:=by simpa using hh
      subst this;exact hσn hb
     rw[bF,af,ah,af];refine h12.tau ?_;rw[af];refine(xx wR.1).mono ?_;rintro _ bU ⟨rfl,zn⟩;have h16:=h12.still zn;have AM:(oH c.nm).length<=48:=by have:=wR.1.2;unfold oH;simp;omega
     refine(Ws h16.tr AM).mono ?_;rintro _ jd ⟨CM,rfl⟩;rw[aE,af,aN,aE,af,aN,aN,aE,af];refine⟨⟨⟨?_,aer⟩,aer,aer⟩,aer,?_⟩
     .exact h16.tau rfl
     .have e0:ai .neq (some .int) true (I 0) (.int .i64 0) jd=.ok (.bool false) jd:=rfl;rw[e0,af,ag,aET u7,fg,af];exact afS _ _ ⟨by unfold uj;rw[hg];rfl,zn.trans CM uG⟩
   .rintro _ ey ⟨rfl,oM⟩;simp only[aL,aM];have nE:=(oM.keep s8.nx qE uG).trans g11;have n13:=oM.nx;rw[aK (n:=4) nE rfl,af,dM]
    have aeM:uj L m c.nm<=8192:=by
     unfold uj;cases hg:qW m c.nm with
     |none=>exact hL.get _
     |some w=>exact Ey _ _ hg
    have adA:xg ey σ sum:=(oM.keep σ qE uG).trans adB;refine(Ui adA qE qE aeM wR.2.1).mono ?_;rintro _ eT ⟨wJ,adz⟩;have n14:=wJ.nx
    have Zm:∀q,s.nx<=q->q∉[σ]:=λq hq hh=>by have:q=σ:=by simpa using hh
                                            omega
    have arH:=((wJ.keep s10.nx qE (Zm _ qE)).trans (oM.keep s10.nx qE uG)).trans rj;have Iz:=(wJ.keep s8.nx qE (Zm _ qE)).trans nE;rw[aK (n:=2) arH rfl,af,show CV.agg [I c.sp,.str c.key]=uo c.nm from rfl];refine f2 Iz ?_;rw[fg,af]
    have m14:Ie eT s.nx m:=by
     obtain⟨es,cl,h1,h2⟩:=m12;exact⟨es,cl,((wJ.keep _ qE (Zm _ qE)).trans (oM.keep _ qE uG)).trans h1,h2⟩
    obtain⟨blk,u1,u2⟩:=m14.update c.nm c.val.length;rw[u1,aS,gH i qE,af];have K14:=(TL.trans oM uG).trans wJ ael;have p1:=ma wR.2.1;have p2:=ma aeM;refine next' (fu-1) _ _ qE ⟨i+1,sum+(24+2*cq c.val.length+2*cq (uj L m c.nm)),_,qE,rfl,K14.set _ (.inr qE) qE,?_,?_,u2,?_,?_,λp n hp=>?_⟩
    .exact(al _ _ _ _ qE).trans adz
    .omega
    .show s.nx<eT.nx;omega
    .rw[aFk hc,EM]at Ex;rw[<-Ex];show _=sum+((24+2*cq c.val.length+2*cq (uj L m c.nm))+oh L (wz m c.nm c.val.length) (cs.drop (i+1)));omega
    .rw[Gx]at hp
     split at hp
     .cases hp;exact wR.2.1
     .exact Ey _ _ hp
  .rw[aEO hc,aET u7];rw[aFu qE]at Ex;have:sum=oh L [] cs:=Ex;subst this;exact⟨k8,.inl ⟨eU,aer,Ng⟩⟩
def Qu (h:oF κ τ π st L Lk T N fr)(hL:Small L)(hv:Sl st [] v 4 (hU cs))(hn:cs.length<=5000):R 77 [.ptr κ 0,v] st λy s=>Kp [] st s/\(((∀c∈cs,c.ok)/\y=.tuple [I (oh L [] cs),I 0])\/((∃c∈cs,¬c.ok)/\y=.tuple [I 0,I 1])):=by
 refine bP ?_;rw[w77,cD,af,ag,aET u7,cH,aS,aJ,ao,aW];refine⟨⟨rfl,rfl,uG⟩,?_⟩;rw[DM,lB,af];have e:bD [CV.int .i64 0] 0 (CV.cN (.int .i64 0))=[I ((0:Nat):Int)]:=rfl;rw[e];have k1:Kp [] st (St.new st (.cells [I ((0:Nat):Int)] 3 false)):=(Kp.refl [] st).new _;have g1:xg (St.new st (.cells [I ((0:Nat):Int)] 3 false)) st.nx 0:=ao _ _;have n1:(St.new st (.cells [I ((0:Nat):Int)] 3 false)).nx=st.nx+1:=rfl;generalize St.new st (.cells [I ((0:Nat):Int)] 3 false)=s1 at*;have h1:=h.still k1
 have xL:st.nx∉κ::own τ π:=λhh=>by
  rcases aEP.1 hh with h2|h2
  .have:=h.lt;omega
  .have:=h.tr.qS _ h2;omega
 have Zs:=(hv.dW (Y:=[st.nx]) uG).mono (k1.mono uG);refine(VN h1 hL (hv.mono k1) hn g1 qE xL Zs).mono ?_;rintro y s3 ⟨k3,hy⟩
 have K3:Kp [] st s3:=k1.trans k3 λq hq=>.inr (by have:q=st.nx:=by simpa using hq
                                                  omega)
 rcases hy with⟨ha,rfl,hs⟩|⟨ha,rfl⟩
 .have e0:ai .neq (some .int) true (I 0) (.int .i64 0) s3=.ok (.bool false) s3:=rfl;rw[e0,af,ag,aET u7,aB,show s3.m.g st.nx=_ from hs,aq];exact⟨K3,.inl ⟨ha,rfl⟩⟩
 .have e0:ai .neq (some .int) true (I 1) (.int .i64 0) s3=.ok (.bool true) s3:=rfl;rw[e0,af,ag,aEW rfl];exact⟨K3,.inr ⟨ha,rfl⟩⟩
end
end
section
variable {κ τ:Nat} {π:PI} {st st':St} {L Lk:List bq} {T N fr:Nat}
def WI (τ N:Nat):qB:=.cells [.ptr τ 0,I ((N/8:Nat):Int)] 163 false
def GO {s:St}(hg:s.m.g κ=some (WI τ N)){K:CV->Prop}(hK:K (.ptr τ 0)):fB 0 (.ptr κ 0) s K:=by
 unfold fB;rw[bF,af,ah,af,aB,hg];exact hK
def X5 (hg:st.m.g κ=some (WI τ N))(hlt:κ<st.nx){c:ChM}(hc:c.ok){Q:CV->St->Prop}(hp:c.gone=false->∀s,Kp [] st s->R 11 [.ptr τ 0,.str (oH c.nm),.str c.val] s Q)
 (hd:c.gone=true->∀s,Kp [] st s->R 41 [.ptr τ 0,.str (oH c.nm)] s λy s'=>∃b e,y=.tuple [b,e]/\Q e s'):R 80 [.ptr κ 0,.agg (lS c)] st Q:=by
 refine bP ?_;rw[w80,bV];refine⟨rfl,?_⟩;rw[aT];unfold lS;generalize hl:[I c.sp,CV.str c.key,.str c.val,.bool c.gone]=l;have l0:l[0]?=some (I c.sp):=O6
 have l1:l[1]?=some (.str c.key):=O6
 have l2:l[2]?=some (.str c.val):=O6
 have l3:l[3]?=some (.bool c.gone):=O6
 have k1:Kp [] st (St.new st (.cells l 159 false)):=(Kp.refl [] st).new _;have g1:(St.new st (.cells l 159 false)).m.g st.nx=some (.cells l 159 false):=ao _ _;have n1:(St.new st (.cells l 159 false)).nx=st.nx+1:=rfl;generalize St.new st (.cells l 159 false)=s1 at*;have hb:bk [.int .i64 0,.str []] [(0,1,I c.sp),(1,1,.str c.key)] s1=.ok (uo c.nm) s1:=rfl;simp only[fl,ah,af,aB,g1,aq,aER,l0,l1,ay,hb];refine(xx hc.1).mono ?_;rintro _ s2 ⟨rfl,k2⟩;have g2:=(k2.keep st.nx qE uG).trans g1;have K2:=k1.trans k2 uG;have hg2:=(K2.keep κ hlt uG).trans hg;simp only[g2,aq,l3,ay,ag];cases Hj:c.gone with
 |true=>
  rw[aEW rfl];refine GO hg2 ?_;refine(hd Hj s2 K2).mono ?_;rintro _ s3 ⟨b,e,rfl,hQ⟩;rw[aE,af,aN,aE,af];exact hQ
 |false=>
  rw[aET u7,bG,bF,af,ah,af,aB,hg2];simp only[WI,aq,aEL,aER,ay,l2];refine(hp Hj s2 K2).mono ?_;intro y s3 hQ;exact⟨⟨aer,aer,aer⟩,aer,hQ⟩
set_option maxHeartbeats 1000000 in
def HS (h:oF κ τ π st L Lk T N fr)(hL:Small L){v:CV}{cs:List ChM}(hv:Sl st [] v 4 (hU cs))(hn:cs.length<=5000){Q:CV->St->Prop}
 (q1:(∃c∈cs,¬c.ok)->∀s,Kp [] st s->Q (I 1) s) (q3:(∀c∈cs,c.ok)->fr<oh L [] cs\/N/8<oh L [] cs->∀s,Kp [] st s->Q (I 3) s) (q0:cs=[]->∀s,Kp [] st s->Q (I 0) s)
 (Φ:Nat->St->Prop) (Ψ:St->Prop) (hΦ:∀i s,Φ i s->s.m.g κ=some (WI τ N)/\Sl s [] v 4 (hU cs)) (hΨ:∀s,Ψ s->s.m.g κ=some (WI τ N))
 (hst:∀i s s',Φ i s->Kp [] s s'->Φ i s') (start:(∀c∈cs,c.ok)->oh L [] cs<=fr->oh L [] cs<=N/8->∀s,Kp [] st s->Φ 0 s)
 (hdo:∀i (hi:i<cs.length) s,(∀c∈cs,c.ok)->Φ i s->R 80 [.ptr κ 0,.agg (lS cs[i])] s λy s'=>(y=I 0/\Φ (i+1) s')\/(y=I 3/\Ψ s'))
 (apR:∀s,(∀c∈cs,c.ok)->Φ cs.length s->R 40 [.ptr τ 0] s λy s'=>(y=I 0/\Q (I 0) s')\/(y=I 3/\Ψ s'))
 (tN:∀s,Ψ s->R 59 [.ptr τ 0] s λ_ s'=>Q (I 3) s') (hN:N<=100000) (j0:fr<=100000):R 31 [.ptr κ 0,v] st Q:=by
 refine bP ?_;rw[w31];refine(Qu h hL hv hn).mono ?_;rintro _ s1 ⟨k1,⟨eU,rfl⟩|⟨aql,rfl⟩⟩
 .have e0:∀s,ai .neq (some .int) true (I 0) (.int .i64 0) s=.ok (.bool false) s:=λs=>rfl;have e3:∀s,ai .neq (some .int) true (I 3) (.int .i64 0) s=.ok (.bool true) s:=λs=>rfl;rw[aE,af,aN,aE,af,e0,af,ag,aET u7];have h1:=h.still k1
  have wP:R 79 [.ptr κ 0] s1 λy s=>y=I fr/\s=s1:=by
   refine bP ?_;rw[w79,cD,af,ag,aET u7];refine GO h1.get ?_;refine(Yw h1.tr).same ?_;exact⟨rfl,rfl⟩
  refine wP.same ?_;generalize hm:oh L [] cs=n at*;have e6:ai .gtr none false (I n) (I fr) s1=.ok (.bool (decide (fr<n))) s1:=zz
  have e7:ai .gtr none false (I n) (I ((N/8:Nat):Int)) s1=.ok (.bool (decide (N/8<n))) s1:=zz
  rw[e6,af]
  by_cases hf:fr<n
  .simp only[aEV hf,aG,aFh,aEM,aFa,bS,af,j7,aF,aFm,ag];exact q3 eU (.inl hf) s1 k1
  .have hg1:=h1.get;simp only[aEO hf,aG,aFf,aEM,aFa,bh,af,j7,bF,ah,aB,hg1,aq,aER,aEN,aEL,ay,e7,aF,ag]
   by_cases Rt:N/8<n
   .rw[aEW (aEV Rt)];exact q3 eU (.inr Rt) s1 k1
   .rw[aET (by simpa using Rt),(hv.mono k1).len cs.length (jj _) qE,af];have e8:ai .eql (some .int) true (I cs.length) (.int .i64 0) s1=.ok (.bool (decide (cs.length=0))) s1:=by rw[az,cI];congr 2;simp only[aFo];omega
    rw[e8,af,ag]
    by_cases h0:cs.length=0
    .rw[aEW (aEV h0)];exact q0 (aFi.1 h0) s1 k1
    .rw[aET (by simpa using h0),cV];simp only[aL,aM];rw[af];refine bN (λfu vs s=>∃i:Nat,fu+i=cs.length/\vs=[.ptr κ 0,v,I cs.length,I i]/\Φ i s) ?_ (n:=cs.length) ⟨0,rfl,rfl,start eU qE qE s1 k1⟩;rintro fu vs s4 K ⟨i,hi,rfl,hP⟩ next;simp only[aL,aM];obtain⟨hg4,hs4⟩:=hΦ i s4 hP;rw[dC,af,ag]
     by_cases hc:i<cs.length
     .rw[aEV hc,aEW rfl];refine SE hs4 hc ?_;refine mH rfl rfl rfl ?_;have k5:Kp [] s4 (St.new s4 (.cells (lS cs[i]) 159 false)):=(Kp.refl [] s4).new _;have g5:(St.new s4 (.cells (lS cs[i]) 159 false)).m.g s4.nx=some (.cells (lS cs[i]) 159 false):=ao _ _;generalize St.new s4 (.cells (lS cs[i]) 159 false)=s5 at*;rw[aK (n:=4) g5 rfl,af];refine(hdo i hc s5 eU (hst i s4 s5 hP k5)).mono ?_;rintro _ s7 (⟨rfl,h7⟩|⟨rfl,h7⟩)
      .rw[e0,af,ag,aET u7,gH i qE,af];exact next (fu-1) _ _ qE ⟨i+1,qE,rfl,h7⟩
      .rw[e3,af,ag,aEW rfl];refine GO (hΨ s7 h7) ?_;exact(tN s7 h7).mono λy s hy=>hy
     .rw[aEO hc,aET u7];have fk:i=cs.length:=by omega
      subst fk;refine GO hg4 ?_;refine(apR s4 eU hP).mono ?_;rintro _ s9 (⟨rfl,h9⟩|⟨rfl,h9⟩)
      .rw[e0,af,ag,aET u7];exact h9
      .rw[e3,af,ag,aEW rfl];refine GO (hΨ s9 h9) ?_;exact(tN s9 h9).mono λy s hy=>hy
 .have e1:ai .neq (some .int) true (I 1) (.int .i64 0) s1=.ok (.bool true) s1:=rfl;rw[aE,af,aN,aE,af,e1,af,ag,aEW rfl];exact q1 aql s1 k1
end
section
variable {κ τ:Nat} {π:PI} {st st':St} {L Lk:List bq} {T N fr:Nat}
def Wp (κ τ:Nat)(π:PI)(L:List bq)(T N:Nat)(cs:List ChM)(st:St)(y:CV)(s:St):Prop:=
 ∃e:Nat,y=I e/\(e=0\/e=1\/e=3)/\(e=0->∀c∈cs,c.ok)/\∃π' T' fr' L',π'.a=π.a/\T'<=T+10000/\kR τ π π' st s/\oF κ τ π' s L' L' T' N fr'/\Small L'/\L'=(if e=0 then iA L cs else L)
def adO {key v:Nat}(hk:key<=48)(hv:v<=8192)(x y:List bq):(if 48<key\/8192<v then x else y)=y:=aET qE
def VZ (h:oF κ τ π st L L T N fr)(hL:Small L){v:CV}{cs:List ChM}(hv:Sl st (own τ π) v 4 (hU cs))(hn:cs.length<=5000)(hT:T<=900000000)(hN:N<=8000):R 31 [.ptr κ 0,v] st (Wp κ τ π L T N cs st):=by
 have j0:=h.tr.VK;have hlt:=h.tr.qS;have same:∀s,Kp [] st s->kR τ π π st s/\oF κ τ π s L L T N fr:=λs k=>⟨sX k,h.still k⟩
 refine HS h hL (hv.dW uG) hn (λhb s k=>⟨1,rfl,uG,λe=>qE,π,T,fr,L,rfl,qE,(same s k).1,(same s k).2,hL,rfl⟩) (λ_ _ s k=>⟨3,rfl,uG,λe=>qE,π,T,fr,L,rfl,qE,(same s k).1,(same s k).2,hL,rfl⟩)
  (λe s k=>⟨0,rfl,uG,λ_=>by simp[e],π,T,fr,L,rfl,qE,(same s k).1,(same s k).2,hL,by subst e;rfl⟩)
  (λi s=>Kp (own τ π) st s/\Small (iA L (cs.take i))/\∃fr',ir τ π s (iA L (cs.take i)) L T N fr') (λs=>Kp (own τ π) st s/\∃L' fr',ir τ π s L' L T N fr') ?_ ?_ ?_ ?_ ?_ ?_ ?_ qE qE
 .rintro i s ⟨k,_⟩;exact⟨(k.keep κ h.lt h.not).trans h.get,(hv.mono k).dW uG⟩
 .rintro s ⟨k,_⟩;exact(k.keep κ h.lt h.not).trans h.get
 .rintro i s s' ⟨k,a,f,t⟩ k2;exact⟨k.trans k2 uG,a,f,t.still k2⟩
 .intro _ _ _ s k;exact⟨k.mono uG,hL,fr,h.tr.still k⟩
 .rintro i hi s eU ⟨k,a,f,t⟩;have hc:=eU _ (aFj hi);have AM:(oH cs[i].nm).length<=48:=by have:=hc.1.2;unfold oH;simp;omega
  have Ey:=a.do hc;rw[<-rn L cs i hi]at Ey;have eD:=rn L cs i hi;have hg:s.m.g κ=some (WI τ N):=(k.keep κ h.lt h.not).trans h.get;refine X5 hg (aFg h.lt k.nx) hc (λHj s2 k2=>?_) (λHj s2 k2=>?_)
  .refine(ads (t.still k2) (oH cs[i].nm) cs[i].val).mono ?_;intro y s3 hy;unfold abw at hy;obtain⟨⟨kf,_⟩,rfl,fr',t'⟩:=hy;have K3:=(k.trans k2 uG).trans kf ael;have hv8:=hc.2.1;rw[adO AM hv8]at t';rw[aET qE]
   by_cases hf:f<24+cq cs[i].val.length
   .rw[aEW hf]at t'⊢;exact .inr ⟨rfl,K3,_,_,t'⟩
   .rw[aET hf]at t'⊢;refine .inl ⟨rfl,K3,Ey,fr',?_⟩;rw[eD];unfold ET;rw[aET (by simp[Hj])];exact t'
  .refine(adw (t.still k2) (oH cs[i].nm)).mono ?_;intro y s3 hy;unfold abI at hy;obtain⟨⟨kf,_⟩,rfl,fr',t'⟩:=hy;have K3:=(k.trans k2 uG).trans kf ael;rw[aET qE]at t'⊢
   by_cases hf:f<24
   .rw[aEW hf]at t'⊢;exact⟨_,_,rfl,.inr ⟨rfl,K3,_,_,t'⟩⟩
   .rw[aET hf]at t'⊢;refine⟨_,_,rfl,.inl ⟨rfl,K3,Ey,fr',?_⟩⟩;rw[eD];unfold ET;rw[aEW Hj];exact t'
 .rintro s eU ⟨k,a,f,t⟩;rw[aEX (aEQ _)]at a t;refine(IX t hT hN).mono ?_;rintro _ s2 (⟨rfl,k2⟩|⟨rfl,π',ea,⟨kf,Nn⟩,t2⟩)
  .exact .inr ⟨rfl,k.trans k2 uG,_,_,t.still k2⟩
  .have K2:=k.trans kf ael;have GW:=λb hb=>(Nn b hb).imp id λh=>aGb k.nx h;refine .inl ⟨rfl,0,rfl,uG,λ_=>eU,π',T+10000,f,iA L cs,ea,qE,⟨K2,GW⟩,⟨t2,(K2.keep κ h.lt h.not).trans h.get,aFg h.lt K2.nx,λhh=>?_⟩,a,rfl⟩;rcases GW κ hh with h1|h1
   .exact h.not h1
   .have:=h.lt;omega
 .rintro s ⟨k,L',f,t⟩;refine(Mx t).mono ?_;rintro _ s2 ⟨rfl,π',f',ea,⟨kf,Nn⟩,t2⟩;have K2:=k.trans kf ael;have GW:=λb hb=>(Nn b hb).imp id λh=>aGb k.nx h;refine⟨3,rfl,uG,λe=>qE,π',T,f',L,ea,qE,⟨K2,GW⟩,⟨t2,(K2.keep κ h.lt h.not).trans h.get,aFg h.lt K2.nx,λhh=>?_⟩,hL,rfl⟩;rcases GW κ hh with h1|h1
  .exact h.not h1
  .have:=h.lt;omega
def KW {p:Nm}(h:uC p):(oH p).length<=48:=by have:=h.2;unfold oH;simp;omega
def RX (h:oF κ τ π st L Lk T N fr){p:Nm}(hp:uC p):R 33 [.ptr κ 0,I p.1,.str p.2] st λy s=>Kp [] st s/\y=.tuple [.str ((fE L (oH p)).getD []),.bool (fE L (oH p)).isSome,I 0]:=by
 refine bP ?_;rw[w33];have hb:bk [.int .i64 0,.str []] [(0,1,I p.1),(1,1,.str p.2)] st=.ok (uo p) st:=rfl;rw[hb,af];refine mH rfl rfl rfl ?_;have k1:Kp [] st (St.new st (.cells [I p.1,.str p.2] 166 false)):=(Kp.refl [] st).new _;have g1:(St.new st (.cells [I p.1,.str p.2] 166 false)).m.g st.nx=some (.cells [I p.1,.str p.2] 166 false):=ao _ _;have n1:(St.new st (.cells [I p.1,.str p.2] 166 false)).nx=st.nx+1:=rfl;generalize St.new st (.cells [I p.1,.str p.2] 166 false)=s1 at*;rw[cD,af,ag,aET u7,aK (n:=2) g1 rfl,af];refine(K0 p).mono ?_;rintro _ s2 ⟨rfl,k2⟩;have h2:=(h.still k1).still k2;have g2:=(k2.keep st.nx qE uG).trans g1;rw[aEV hp,cU,af,ag,aET u7,bG,bF,af,ah,af];refine h2.tau ?_;rw[aK (n:=2) g2 rfl,af];refine(xx hp).mono ?_;rintro _ s3 ⟨rfl,k3⟩;have h3:=h2.still k3;refine(Ws h3.tr (KW hp)).mono ?_;rintro _ s4 ⟨k4,rfl⟩;rw[aE,af,aN,aE,af,aN,aN,aE,af];exact⟨⟨⟨h3.tau rfl,aer⟩,aer,aer⟩,aer,((k1.trans k2 uG).trans k3 uG).trans k4 uG,rfl⟩
def NS (cs:List ChM)(i:Nat)(hi:i<cs.length):hU (cs.take i)++(CV.agg (lS cs[i])).cN=hU (cs.take (i+1)):=by
 rw[aFe hi];unfold hU;rw[aFR,aGJ];simp
def LU (hf:eH st){v:CV}{cs:List ChM}(hv:Sl st [] v 4 (hU cs))(hn:cs.length<=5000):R 32 [v] st (Made 4 159 (hU cs) st):=by
 refine bP ?_;rw[w32,cV];simp only[aL,aM];refine bN (λfu vs s=>∃i x F,fu+i=cs.length/\vs=[v,x,I i]/\Kp [] st s/\Own s x 4 159 (hU (cs.take i)) F/\∀b∈F,st.nx<=b/\b<s.nx) ?_ (n:=cs.length) ⟨0,.ae,[],rfl,rfl,Kp.refl _ _,.inl ⟨rfl,rfl,rfl⟩,uG⟩;rintro fu vs s K ⟨i,x,F,hi,rfl,hk,own,hF⟩ next;have hs:=hv.mono hk;simp only[aL,aM];rw[hs.len cs.length (jj _) qE s,af,dC,af,ag]
 by_cases hc:i<cs.length
 .rw[aEV hc,aEW rfl,bG];obtain⟨b,p,l,t,g,q1,q2,q3,q4,q5⟩:=hs.cellAt (L:=cs.map lS) qE (HL cs) (i:=i) Dx;rw[aHc]at q5;have l0:=q5 0 _ rfl;have l1:=q5 1 _ rfl;have l2:=q5 2 _ rfl;have l3:=q5 3 _ rfl;have kS:=(Kp.refl [] s).skip;have hn:(St.skip s).m.g s.nx=none:=hk.fresh hf _ (aEQ _);have gS:(St.skip s).m.g b=some (.cells l t g):=q2;have nS:(St.skip s).nx=s.nx+1:=rfl;have oS:Own (St.skip s) x 4 159 (hU (cs.take i)) F:=own.mono λ_ _=>rfl;generalize St.skip s=s2 at*;simp only[q1,af,ah,aB,gS,aq,l0,l1,l2,l3,ay];have hb:bk [.int .i64 0,.str [],.str [],.bool false] [(0,1,I cs[i].sp),(1,1,.str cs[i].key),(2,1,.str cs[i].val),(3,1,.bool cs[i].gone)] s2=.ok (.agg (lS cs[i])) s2:=rfl;rw[hb,af];refine xe 48 oS qE (λq hq=>⟨O9,O9⟩) qE hn rfl rfl rfl rfl (by rw[jj,aFc];omega) ?_;intro v' s4 F4 o4 k4 hF4;have gB:(St.set s2 s.nx (.cells (CV.agg (lS cs[i])).cN 159 false)).m.g b=some (.cells l t g):=(al _ _ _ _ qE).trans gS;rw[gB];simp only[aq,l0,l1,l2,l3,ay];refine⟨⟨⟨aer,aer⟩,⟨aer,aer⟩,⟨aer,aer⟩,⟨aer,aer⟩,aer⟩,⟨aer,aer⟩,?_⟩;rw[NS cs i hc]at o4;rw[gH i qE,af];have nk:=hk.nx;refine next (fu-1) _ _ qE ⟨i+1,v',F4,qE,rfl,(hk.trans kS uG).trans k4 λq hq=>.inr ?_,o4,λq hq=>⟨?_,(hF4 q hq).2⟩⟩
  .rcases aEP.1 hq with h|h
   .omega
   .exact(hF q h).1
  .rcases(hF4 q hq).1 with h|h
   .exact(hF q h).1
   .omega
 .rw[aEO hc,aET u7];rw[aEX qE]at own;exact⟨F,hk,own,hF⟩
end
section
variable {κ τ:Nat} {π:PI} {st st':St} {L Lk:List bq} {T N fr:Nat}
def uO (sp:Int)(to:cn):cn:=if to=[]then (if sp+1<256 then oH (sp+1,[])else [])else oH (sp,to)
def EV (p:bq):bq:=(p.1.drop 1,p.2)
def vn (L:List bq)(sp:Int)(fm to:cn):List bq:=(L.filter (A8 (oH (sp,fm)) (uO sp to))).map EV
def YU {sp:Int}{fm to:cn}{p:bq}(h:A8 (oH (sp,fm)) to p=true):1<=p.1.length:=by
 rw[Ko]at h;simp only[aFl,aGa]at h;cases hp:p.1 with
 |cons a l=>simp
 |nil=>
  rw[hp]at h;have:=wH h.1 (KX _);unfold oH at this;cases this
set_option maxHeartbeats 1000000 in
def DV (h:oF κ τ π st L Lk T N fr){sp:Int}{fm to:cn}(hp:uC (sp,fm))(hq:uC (sp,to))(hl:L.length<=1000000):R 34 [.ptr κ 0,I sp,.str fm,.str to] st λy s=>∃x,y=.tuple [x,I 0]/\Kp [] st s/\Sl s [] x 2 (gU (vn L sp fm to)):=by
 refine bP ?_;rw[w34];have Ix:bk [.int .i64 0,.str []] [(0,1,I sp),(1,1,.str fm)] st=.ok (.agg [I sp,.str fm]) st:=rfl;have CX:bk [.int .i64 0,.str []] [(0,1,I sp),(1,1,.str to)] st=.ok (.agg [I sp,.str to]) st:=rfl;rw[Ix,af,CX,af,cH,aS,cH,aS];have k1:Kp [] st (St.new st (.cells [.int .i64 0,.str []] 166 false)):=(Kp.refl [] st).new _;have g1:(St.new st (.cells [.int .i64 0,.str []] 166 false)).m.g st.nx=some (.cells [.int .i64 0,.str []] 166 false):=ao _ _;have n1:(St.new st (.cells [.int .i64 0,.str []] 166 false)).nx=st.nx+1:=rfl;generalize St.new st (.cells [.int .i64 0,.str []] 166 false)=s1 at*;have k2:Kp [] s1 (St.new s1 (.cells [.int .i64 0,.str []] 166 false)):=(Kp.refl [] s1).new _;have g2:(St.new s1 (.cells [.int .i64 0,.str []] 166 false)).m.g s1.nx=some (.cells [.int .i64 0,.str []] 166 false):=ao _ _;have n2:(St.new s1 (.cells [.int .i64 0,.str []] 166 false)).nx=s1.nx+1:=rfl;generalize St.new s1 (.cells [.int .i64 0,.str []] 166 false)=s2 at*;have rj:=(k2.keep st.nx qE uG).trans g1;rw[aJ,rj,aW,aT,show bD [.int .i64 0,.str []] 0 [I sp,.str fm]=[I sp,.str fm]from rfl];refine⟨⟨rfl,rfl,uG⟩,?_⟩;have k3:Kp [] st (St.set s2 st.nx (.cells [I sp,.str fm] 166 false)):=(k1.trans k2 uG).set _ (.inr (aEQ _)) qE;have g3:(St.set s2 st.nx (.cells [I sp,.str fm] 166 false)).m.g st.nx=some (.cells [I sp,.str fm] 166 false):=ar _ _ _;have Hu:(St.set s2 st.nx (.cells [I sp,.str fm] 166 false)).m.g s1.nx=_:=(al _ _ _ _ qE).trans g2;have n3:(St.set s2 st.nx (.cells [I sp,.str fm] 166 false)).nx=s2.nx:=rfl;generalize St.set s2 st.nx (.cells [I sp,.str fm] 166 false)=s3 at*;rw[aJ,Hu,aW,aT,show bD [.int .i64 0,.str []] 0 [I sp,.str to]=[I sp,.str to]from rfl];refine⟨⟨rfl,rfl,uG⟩,?_⟩;have k4:Kp [] st (St.set s3 s1.nx (.cells [I sp,.str to] 166 false)):=k3.set _ (.inr qE) qE
 have g4:(St.set s3 s1.nx (.cells [I sp,.str to] 166 false)).m.g s1.nx=some (.cells [I sp,.str to] 166 false):=ar _ _ _;have OB:(St.set s3 s1.nx (.cells [I sp,.str to] 166 false)).m.g st.nx=_:=(al _ _ _ _ qE).trans g3;have n4:(St.set s3 s1.nx (.cells [I sp,.str to] 166 false)).nx=s3.nx:=rfl;generalize St.set s3 s1.nx (.cells [I sp,.str to] 166 false)=s4 at*;have h4:=h.still k4;rw[cD,af,ag,aET u7,aK (n:=2) OB rfl,af];refine(K0 (sp,fm)).mono ?_;rintro _ s5 ⟨rfl,k5⟩;have g5:=(k5.keep s1.nx qE uG).trans g4;have g35:=(k5.keep st.nx qE uG).trans OB;have n5:=k5.nx;rw[aEV hp,cU,af,aG];simp only[aFh,aEM,aFa,aFf,bh,eR];rw[aK (n:=2) g5 rfl,af];refine(K0 (sp,to)).mono ?_;rintro _ s6 ⟨rfl,k6⟩;have g6:=(k6.keep s1.nx qE uG).trans g5;have g36:=(k6.keep st.nx qE uG).trans g35;have n6:=k6.nx;rw[aEV hq,cU,af,aF,aET u7,af,ag,aET u7,aK (n:=2) g6 rfl,af];refine(xx hq).mono ?_;rintro _ s7 ⟨rfl,k7⟩;have g37:=(k7.keep st.nx qE uG).trans g36;have n7:=k7.nx;have h7:=((h4.still k5).still k6).still k7;have K7:=((k4.trans k5 uG).trans k6 uG).trans k7 uG;refine jO (λvs s=>vs=[.ptr κ 0,.ptr st.nx 0,.str (uO sp to)]/\Kp [] s7 s) ?_ ?_
 .intro nz yT;have e43:ai .eql (some .str) true (.str to) (.str []) s7=.ok (.bool (decide (to=[]))) s7:=by rw[eA,lA]
  rw[e43,af,ag];obtain⟨⟨p1,p2⟩,p3⟩:=hp;dsimp only at p1 p2
  by_cases ht:to=[]
  .have e44:ai .add none true (I sp) (.int .i64 1) s7=.ok (I (sp+1)) s7:=by rw[az,cO,bz qE]
   have e45:ai .lss none true (I (sp+1)) (.int .i64 256) s7=.ok (.bool (decide (sp+1<256))) s7:=by rw[az,c8]
   rw[aEV ht,aEW rfl,e44,af,e45,af,ag]
   by_cases hs:sp+1<256
   .have hb3:bk [.int .i64 0,.str []] [(0,1,I (sp+1)),(1,1,.str [])] s7=.ok (uo (sp+1,[])) s7:=rfl;rw[aEV hs,aEW rfl,af,hb3,af];refine(xx (p:=(sp+1,[])) ⟨⟨by dsimp only;omega,hs⟩,uG⟩).mono ?_;rintro _ s8 ⟨rfl,k8⟩;exact yT _ _ ⟨by unfold uO;rw[aEW ht,aEW hs],k8⟩
   .rw[aEO hs,aET u7];exact yT _ _ ⟨by unfold uO;rw[aEW ht,aET hs],Kp.refl _ _⟩
  .rw[aEO ht,aET u7];exact yT _ _ ⟨by unfold uO;rw[aET ht],Kp.refl _ _⟩
 .rintro _ s8 ⟨rfl,k8⟩;simp only[aL,aM];have h8:=h7.still k8;have g8:=(k8.keep st.nx qE uG).trans g37;rw[bG,bF,af,ah,af];refine h8.tau ?_;rw[aK (n:=2) g8 rfl,af];refine(xx hp).mono ?_;rintro _ s9 ⟨rfl,k9⟩;have h9:=h8.still k9;refine(Ud h9.tr _ _).mono ?_;rintro _ s10 ⟨fv,rfl,qh,c10⟩;have e0:ai .neq (some .int) true (I 0) (.int .i64 0) s10=.ok (.bool false) s10:=rfl;rw[aE,af,aN,aE,af];refine⟨⟨⟨h9.tau rfl,aer⟩,aer,aer⟩,aer,?_⟩;have K10:=((K7.trans k8 uG).trans k9 uG).trans qh uG
  have apA:eH s10:=by
   obtain⟨⟨G,Gk,ht,_⟩,_⟩:=(h9.still qh).tr;exact ht.fr
  rw[e0,af,ag,aET u7,cV];unfold vn;have Ni:∀p∈L.filter (A8 (oH (sp,fm)) (uO sp to)),1<=p.1.length:=λp hp=>YU (aGm.1 hp).2;have hML:(L.filter (A8 (oH (sp,fm)) (uO sp to))).length<=1000000:=aGb (aHf _ _) hl;generalize L.filter (A8 (oH (sp,fm)) (uO sp to))=M at*;simp only[aL,aM];rw[c10.len M.length (l7 _) qE,af];refine bN (λfu vs s=>∃i x F,fu+i=M.length/\vs=[x,fv,I M.length,I i]/\Kp [] s10 s/\Own s x 2 82 (gU ((M.take i).map EV)) F/\∀b∈F,s10.nx<=b/\b<s.nx) ?_ (n:=M.length) ⟨0,.ae,[],rfl,rfl,Kp.refl _ _,.inl ⟨rfl,rfl,rfl⟩,uG⟩;rintro fu vs s K ⟨i,x,F,hi,rfl,hk,own,hF⟩ next;simp only[aL,aM];rw[dC,af,ag];have nk:=hk.nx
  by_cases hc:i<M.length
  .rw[aEV hc,aEW rfl];have cs:=c10.mono hk;refine cs.hO (L:=M.map fS) qE (KP _) (i:=i) Dx _ ?_;rw[aHc];refine mH rfl rfl rfl ?_;have kA:Kp [] s (St.new s (.cells (fS M[i]) 41 false)):=(Kp.refl [] s).new _;have gA:(St.new s (.cells (fS M[i]) 41 false)).m.g s.nx=some (.cells (fS M[i]) 41 false):=ao _ _;have nA:(St.new s (.cells (fS M[i]) 41 false)).nx=s.nx+1:=rfl;have oA:Own (St.new s (.cells (fS M[i]) 41 false)) x 2 82 (gU ((M.take i).map EV)) F:=own.mono λb hb=>bg _ _ _ (hF b hb).2;generalize St.new s (.cells (fS M[i]) 41 false)=sA at*;have kS:=(Kp.refl [] sA).skip;have hn:(St.skip sA).m.g sA.nx=none:=kA.fresh (hk.fresh apA) _ (aEQ _);have gS:(St.skip sA).m.g s.nx=some (.cells (fS M[i]) 41 false):=gA;have nS:(St.skip sA).nx=sA.nx+1:=rfl;have oS:Own (St.skip sA) x 2 82 (gU ((M.take i).map EV)) F:=oA.mono λ_ _=>rfl;generalize St.skip sA=sS at*;have Tx:=Ni _ (aFj hc)
   have esl:ix (.str M[i].1) (some (.int .i64 1)) none sS=.ok (.str (M[i].1.drop 1)) sS:=by
    unfold ix;have:=xd 1 M[i].1.length M[i].1.length;rw[aEW Tx]at this;dsimp only;rw[show(some (CV.int .i64 1))=some (I ((1:Nat):Int))from rfl,this];dsimp only;rw[aEX Pc]
   have l0:(fS M[i])[0]?=some (.str M[i].1):=rfl;have l1:(fS M[i])[1]?=some (.str M[i].2):=rfl;simp only[bG,ah,af,aB,gS,aq,aER,l0,l1,ay,esl];have hb:bk [.str [],.str []] [(0,1,.str (M[i].1.drop 1)),(1,1,.str M[i].2)] sS=.ok (.agg (fS (EV M[i]))) sS:=rfl;rw[hb,af];refine xe 32 oS qE (λq hq=>⟨O9,O9⟩) qE hn rfl rfl rfl rfl (by rw[l7,aFK,aFc];omega) ?_;intro v' sB FB oB kB hFB;have gB:(St.set sS sA.nx (.cells (CV.agg (fS (EV M[i]))).cN 82 false)).m.g s.nx=_:=(al _ _ _ _ qE).trans gS;rw[gB];simp only[aq,l0,l1,ay];refine⟨⟨⟨aer,aer⟩,⟨aer,aer⟩,aer⟩,⟨aer,aer⟩,?_⟩
   have eap:gU ((M.take i).map EV)++(CV.agg (fS (EV M[i]))).cN=gU ((M.take (i+1)).map EV):=by
    rw[aFe hc,aFR,uL];rfl
   rw[eap]at oB;rw[gH i qE,af];refine next (fu-1) _ _ qE ⟨i+1,v',FB,qE,rfl,((hk.trans kA uG).trans kS uG).trans kB λq hq=>.inr ?_,oB,λq hq=>⟨?_,(hFB q hq).2⟩⟩
   .rcases aEP.1 hq with h|h
    .omega
    .exact(hF q h).1
   .rcases(hFB q hq).1 with h|h
    .exact(hF q h).1
    .omega
  .rw[aEO hc,aET u7];rw[aEX qE]at own;exact⟨x,rfl,K10.trans hk uG,own.sl λb hb=>⟨uG,(hF b hb).2⟩⟩
end
section
variable {κ τ:Nat} {π:PI} {st st':St} {L Lk:List bq} {T N fr:Nat}
def xj (κ τ:Nat)(π:PI)(s:St)(Gk:GM)(Lk:List bq)(T N:Nat):Prop:=Fm τ π s Gk Gk Lk Lk T N/\s.m.g κ=some (WI τ N)/\κ<s.nx/\κ∉own τ π
def xj.at' {s:St}{Gk:GM}(h:xj κ τ π s Gk Lk T N):oF κ τ π s Lk Lk T N Gk.cF:=⟨h.1.two,h.2.1,h.2.2.1,h.2.2.2⟩
def Qk {Gk:GM}(hp:Pg π st Gk)(hf:eH st)(hk:iX π st Gk T)(hL:fA Gk Lk)(hc:Calm π.D)(hl:π.D.aA.length=N)(hN:N<=100000):
 R 78 [.ptr π.a 0,.ptr π.p 0,I 0] st λy s=>∃κ τ,y=.tuple [.ptr κ 0,I 0]/\Kp [] st s/\st.nx<=κ/\st.nx<=τ/\xj κ τ π s Gk Lk T N:=by
 refine bP ?_;rw[w78];have e0:ai .neq (some .int) true (I 0) (.int .i64 0) st=.ok (.bool false) st:=rfl;rw[e0,af,ag,aET u7];refine(adu hp hf hk hL hc hl).mono ?_;rintro _ s1 ⟨τ,rfl,h1,k1,t1⟩;refine(adv t1.two).same ?_
 have eq:ai .quo none true (I N) (.int .i64 8) s1=.ok (I ((N/8:Nat):Int)) s1:=by
  have e1:ai .quo none true (I N) (.int .i64 8) s1=.ok (I (IntKind.i64.wrap (Int.tdiv (N:Int) 8))) s1:=rfl;have e2:Int.tdiv (N:Int) 8=((N/8:Nat):Int):=rfl;rw[e1,e2,bz qE]
 have hb:bk [.bA,.int .i64 0] [(0,1,.ptr τ 0),(1,1,I ((N/8:Nat):Int))] s1=.ok (.agg [.ptr τ 0,I ((N/8:Nat):Int)]) s1:=rfl;rw[eq,af,hb,af,bV];refine⟨rfl,?_⟩;rw[aT];have k2:Kp [] s1 (St.new s1 (WI τ N)):=(Kp.refl [] s1).new _;have n1:=k1.nx;exact⟨s1.nx,τ,rfl,k1.trans k2 uG,qE,h1,t1.still k2,ao _ _,Nat.lt_succ_self _,λhh=>by have:=t1.two.qS _ hh;omega⟩
def A1 {a n:Nat}{F:List Nat}(h1:64<=n)(h2:n<=8000)(hd:dz st a F (tf (List.replicate n lj)))(hf:eH st)(hFl:∀b∈F,b<st.nx):
 R 30 [.ptr a 0] st λy s=>∃κ τ π,y=.tuple [.ptr κ 0,I 0]/\π.a=a/\Kp F st s/\(∀b∈κ::own τ π,b∈F\/st.nx<=b)/\xj κ τ π s (OF (n-1-n/4)) [] 0 n:=by
 refine bP ?_;rw[w30];have hl:(tf (List.replicate n lj)).aA.length=n:=by show(List.replicate n lj).length=n;simp
 have hz:∀i,i<(tf (List.replicate n lj)).aA.length->(tf (List.replicate n lj)).cur i=lj:=λi hi=>by
  rw[hl]at hi;unfold bf.cur;rw[show(tf (List.replicate n lj)).waits=[]from rfl,Ar];show(List.replicate n lj).getD i []=lj;simp[aHb,hi]
 refine(NH hd hf ⟨rfl,rfl⟩ rfl qE hz).mono ?_;rintro _ s2 ⟨π,rfl,rfl,hp,hk,k2,eU,Xj,hc,hlen,r,hlr,hr⟩;rw[hl]at hp hk;rw[aE,af,aN,aE,af];refine(Qk hp (k2.fresh hf) hk (adr _ qE qE) hc (hlen.trans hl) qE).mono ?_;rintro _ s3 ⟨κ,τ,rfl,k3,hκ,hτ,kv⟩;rw[aE,af,aN,aE,af];have n2:=k2.nx;refine⟨κ,τ,π,rfl,rfl,k2.trans k3 uG,λb hb=>?_,kv⟩;rcases aEP.1 hb with h|h
 .right;omega
 .unfold own at h;rw[hlr]at h;rcases aEP.1 h with h|h
  .right;omega
  .rcases aEY.1 h with h|h
   .have h:b=r:=by simpa using h
    right;omega
   .exact eU b h
def YM (h:oF κ τ π st L Lk T N fr)(hT:T<=900000000)(hN:N<=100000):R 37 [.ptr π.a 0] st λy s=>∃κ' τ' π' fr',y=.tuple [.ptr κ' 0,I 0]/\Kp π.Fd st s/\oF κ' τ' π' s Lk Lk T N fr':=by
 refine bP ?_;rw[w37];refine(Yv h.tr hT).mono ?_;rintro _ s6 ⟨π6,Gk,rfl,ea6,hp6,hf6,aoQ,hL6,hc6,afJ,k6,auE,r6,azG,hr6⟩;rw[aE,af,aN,aE,af,<-ea6];refine(Qk hp6 hf6 aoQ hL6 hc6 afJ hN).mono ?_;rintro _ s3 ⟨κ',τ',rfl,k3,hκ,hτ,kv⟩;rw[aE,af,aN,aE,af];exact⟨κ',τ',π6,_,rfl,k6.trans k3 uG,kv.at'⟩
def YW (h:oF κ τ π st L Lk T N fr):R 76 [.ptr κ 0] st λy s=>y=I ((N/8:Nat):Int)/\s=st:=by
 refine bP ?_;rw[w76,cD,af,ag,aET u7];unfold fB;rw[bF,af,ah,af,aB,h.get];exact⟨rfl,rfl⟩
def Few (G:GM)(k m:Nat):Prop:=(k=0/\G=OF m)\/(0<k/\∃F,yH G k F m/\m<=F+1+20*k)
def Uu {G Gk:GM}{k m:Nat}(h:Fm τ π st G Gk L Lk T N)(hf:Few G k m)(hk:k<=2)(hm:200<=m){key v:List UInt8}(AM:key.length<=48)(hv:v.length<=8192)(jg:fE L key=none):
 R 11 [.ptr τ 0,.str key,.str v] st λy s=>y=I 0/\kR τ π π st s/\∃G',Fm τ π s G' Gk (mR L key v) Lk T N/\Few G' (k+1) m:=by
 have hp:=ma hv;rcases hf with⟨rfl,rfl⟩|⟨h0,F,uR,hF⟩
 .have f0:(OF m).cF=m-1:=by unfold GM.cF OF;simp
  refine(KA h.tg h.ok key v AM hv (by rw[f0];omega) jg (λf rest hp=>(P9 rfl hp).elim)).mono ?_;intro y s h2;obtain⟨rfl,k2,G1,tg1,UH,lo1,Tx⟩:=alX (F:=m-2-cq v.length) (P:=m) h2 rfl rfl (by rw[f0];omega) rfl;obtain⟨t2,fr2⟩:=h.to k2 tg1 UH Tx;exact⟨rfl,fr2,G1,t2,.inr ⟨qE,_,lo1,qE⟩⟩
 .refine(KA h.tg h.ok key v AM hv (by rw[uR.free];omega) jg (λf rest hp=>⟨(uR.path hp).1,by rw[(uR.path hp).2.2.1];omega⟩)).mono ?_;intro y s h2;have aoJ:yH G k ((F-cq v.length)+cq v.length) m:=by rw[Nat.sub_add_cancel qE];exact uR
  obtain⟨rfl,k2,G1,tg1,UH,lo1,Tx⟩:=alW h2 aoJ;obtain⟨t2,fr2⟩:=h.to k2 tg1 UH Tx;exact⟨rfl,fr2,G1,t2,.inr ⟨qE,_,lo1,qE⟩⟩
def RW (L:List bq)(cs:List ChM)(k:cn)(h:∀c∈cs,oH c.nm≠k):fE (iA L cs) k=fE L k:=by
 induction cs generalizing L with
 |nil=>rfl
 |cons c r ih=>
  show fE (iA (ET L c) r) k=_;rw[ih _ λd hd=>h d (by simp[hd]),ri,aET (aFL (h c uG))]
def Qt {L:List bq}(hL:Small L)(cs:List ChM):∀m:xW,(∀p n,qW m p=some n->n<=8192)->(∀c∈cs,c.ok)->oh L m cs<=96*cs.length:=by
 induction cs with
 |nil=>intro m _ _;exact aHt _
 |cons c r ih=>
  intro m hm hc;have vH:=hc c uG
  have hw:uj L m c.nm<=8192:=by
   unfold uj;cases hg:qW m c.nm with
   |none=>exact hL.get _
   |some w=>exact hm _ _ hg
  have h1:=ih (wz m c.nm c.val.length) (λp n hp=>by
   rw[Gx]at hp
   split at hp
   .cases hp;exact vH.2.1
   .exact hm _ _ hp) λd hd=>hc d (by simp[hd])
  have p1:=ma vH.2.1;have p2:=ma hw;rw[aFp];show(24+2*cq c.val.length+2*cq (uj L m c.nm))+oh L (wz m c.nm c.val.length) r<=_;omega
def Mf {n:Nat}(h:xj κ τ π st (OF (n-1-n/4)) [] 0 n)(BU:1600<=n)(Xq:n<=8000){v:CV}{cs:List ChM}(hv:Sl st (own τ π) v 4 (hU cs))(Nu:cs.length<=2)(J9:cs≠[])(mU:∀c∈cs,c.ok/\c.gone=false)(ja:∀i (hi:i<cs.length),∀c∈cs.take i,oH c.nm≠oH cs[i].nm):
 R 31 [.ptr κ 0,v] st λy s=>y=I 0/\∃π' fr',π'.a=π.a/\kR τ π π' st s/\oF κ τ π' s (iA [] cs) (iA [] cs) 10000 n fr'/\Small (iA [] cs):=by
 have hA:=h.at';have RM:Small []:=λp hp=>by simp at hp
 have hnm:=Qt RM cs [] (λp n h=>by simp[qW]at h) λc hc=>(mU c hc).1;have f0:(OF (n-1-n/4)).cF=n-1-n/4-1:=by unfold GM.cF OF;simp
 refine HS hA RM (hv.dW uG) qE (λ⟨c,hc,hb⟩=>absurd (mU c hc).1 hb) (λ_ hb=>qE) (λe=>absurd e J9)
  (λi s=>Kp (own τ π) st s/\Small (iA [] (cs.take i))/\∃G,Fm τ π s G (OF (n-1-n/4)) (iA [] (cs.take i)) [] 0 n/\Few G i (n-1-n/4)) (λ_=>False) ?_ ?_ ?_ ?_ ?_ ?_ ?_ qE qE
 .rintro i s ⟨k,_⟩;exact⟨(k.keep κ h.2.2.1 h.2.2.2).trans h.2.1,(hv.mono k).dW uG⟩
 .rintro s ⟨⟩
 .rintro i s s' ⟨k,a,G,t,f⟩ k2;exact⟨k.trans k2 uG,a,G,t.still k2,f⟩
 .intro _ _ _ s k;exact⟨k.mono uG,RM,_,h.1.still k,.inl ⟨rfl,rfl⟩⟩
 .rintro i hi s _ ⟨k,a,G,t,f⟩;obtain⟨hc,Hj⟩:=mU _ (aFj hi);have Ey:=a.do hc;rw[<-rn [] cs i hi]at Ey;have eD:=rn [] cs i hi;have hg:=(k.keep κ h.2.2.1 h.2.2.2).trans h.2.1;refine X5 hg (aFg h.2.2.1 k.nx) hc (λ_ s2 k2=>?_) (λhx=>by rw[Hj]at hx;cases hx);refine(Uu (t.still k2) f qE qE (KW hc.1) hc.2.1 (RW [] _ _ (ja i hi))).mono ?_;rintro _ s3 ⟨rfl,⟨kf,_⟩,G',t',f'⟩;refine .inl ⟨rfl,(k.trans k2 uG).trans kf ael,Ey,G',?_,f'⟩;rw[eD];unfold ET;rw[aET (by simp[Hj])];exact t'
 .rintro s _ ⟨k,a,G,t,f⟩;rw[aEX (aEQ _)]at a t
  have hu:G.used<=n/8:=by
   rcases f with⟨h0,_⟩|⟨_,F,uR,hF⟩
   .exact absurd (aFi.1 h0) J9
   .have:=TY uR t.ok.ok;omega
  refine(Pp t qE Xq hu).mono ?_;rintro _ s2 ⟨rfl,π',ea,⟨kf,Nn⟩,t2⟩;have K2:=k.trans kf ael;have GW:=λb hb=>(Nn b hb).imp id λh=>aGb k.nx h;refine .inl ⟨rfl,rfl,π',_,ea,⟨K2,GW⟩,⟨t2.two,(K2.keep κ h.2.2.1 h.2.2.2).trans h.2.1,aFg h.2.2.1 K2.nx,λhh=>?_⟩,a⟩;rcases GW κ hh with h1|h1
  .exact h.2.2.2 h1
  .have:=h.2.2.1;omega
 .rintro s ⟨⟩
end
section
variable {st st':St}
def aV:List UInt8:=List.replicate 100 0
def cA:ChM:=⟨1,[97],aV,false⟩
def cB:ChM:=⟨1,[98],[120],false⟩
def cX:ChM:=⟨1,[97],[120],false⟩
def xV:aV.length=100:=aFI
def SJ (x y:ChM)(s:St):bM 159 2 (cM 2 [.int .i64 0,.str [],.str [],.bool false]) [(0,4,.agg (lS x)),(4,4,.agg (lS y))] s=.ok (.slice s.nx 0 2 2 0) (St.new s (.cells (hU [x,y]) 159 false)):=rfl
def sl2 {s:St}{b:Nat}{cs:List ChM}{X:List Nat}{t:TypeId}(h:s.m.g b=some (.cells (hU cs) t false))(hb:b<s.nx)(hx:b∉X):Sl s X (.slice b 0 cs.length cs.length 0) 4 (hU cs):=
 .inr ⟨b,0,_,_,0,rfl,jj cs,⟨aEQ _,.inl rfl⟩,.inr ⟨hx,hb,_,_,_,h,by rw[jj];omega,by rw[aFr,aEX (by rw[jj];omega)]⟩⟩
def Ol (v:List UInt8)(k:cn)(sp:Int)(h1:0<=sp/\sp<256)(h2:k.length<=47)(h3:v.length<=8192):(ChM.mk sp k v false).ok:=⟨⟨h1,h2⟩,h3,λh=>by cases h⟩
def S0:List bq:=iA [] [cA,cB]
def Bi:S0=[([1,97],aV),([1,98],[120])]:=by
 have h1:eQ [1,97] [1,98]:=u7
 have h2:¬eQ ([1,98]:cn) [1,97]:=u7
 show mR (mR [] [1,97] aV) [1,98] [120]=_;unfold mR;simp[h1,h2]
def Oe:vn S0 1 [97] [98]=[([97],aV)]:=by
 have e1:A8 (oH (1,[97])) (uO 1 [98]) ([1,97],aV)=true:=by rw[Ko];decide
 have e2:A8 (oH (1,[97])) (uO 1 [98]) ([1,98],[120])=false:=by rw[Ko];decide
 unfold vn;rw[Bi,aGo,e1,aEW rfl,aGo,e2,aET u7,List.filter_nil]
 rfl
def YV:oh S0 [] [cX,cA]=52:=by
 have h1:uj S0 [] cX.nm=100:=by
  unfold uj;rw[show fE S0 (oH cX.nm)=some aV by rw[Bi];rfl];exact xV
 have h2:uj S0 (wz [] cX.nm cX.val.length) cA.nm=1:=rfl;show(24+2*cq 1+2*cq (uj S0 [] cX.nm))+((24+2*cq aV.length+2*cq (uj S0 (wz [] cX.nm cX.val.length) cA.nm))+0)=52;rw[h1,h2,xV];rfl
def Uy (p:bq)(s:St):ai .eql (some (.struct (.cons 0 1 false .str (.cons 1 1 false .str .nil)))) false (.agg (fS p)) (.agg (fS p)) s=.ok (.bool true) s:=by
 rw[qR]
 have:lO (.struct (.cons 0 1 false .str (.cons 1 1 false .str .nil))) (.agg (fS p)) (.agg (fS p))=some true:=by
  unfold fS;simp[lO,yX,iB,andThen]
 rw[this];rfl
set_option maxHeartbeats 1000000 in
def Me (hf:eH st):R 27 [] st λy s=>y=.bool true/\Kp [] st s:=by
 refine bP ?_;rw[w27];refine(show R 29 [.int .i64 2000] st _ from JC (n:=2000) qE qE).mono ?_;rintro _ s1 ⟨k1,a,F,rfl,hd,hF⟩;have e0:∀s,ai .neq (some .int) true (I 0) (.int .i64 0) s=.ok (.bool false) s:=λs=>rfl;rw[aE,af,aN,aE,af,e0,af,ag,aET u7];refine(A1 (n:=2000) qE qE hd (k1.fresh hf) hd.lt).mono ?_;rintro _ s2 ⟨κ,τ,π,rfl,rfl,k2,yS,kv⟩;have n1:=k1.nx
 have Xn:∀b∈κ::own τ π,st.nx<=b:=λb hb=>by
  rcases yS b hb with h|h
  .exact hF b h
  .omega
 have K2:=k1.trans k2 λq hq=>.inr (hF q hq);rw[aE,af,aN,aE,af,e0,af,aG];simp only[aEM,aFa,aFf,bh,af,eR];refine(YW kv.at').same ?_;have em:ai .neq (some .int) true (I ((2000/8:Nat):Int)) (.int .i64 250) s2=.ok (.bool false) s2:=rfl;have emk:pe 5 1 [.int .u8 0] (.int .i64 100) (.int .i64 100) s2=.ok (.slice s2.nx 0 100 100 0) (St.new s2 (.cells (aj aV) 5 false)):=Ag (n:=100) qE s2;rw[em,af,aF,aET u7,af,ag,aET u7,emk,aS];have k3:Kp [] s2 (St.new s2 (.cells (aj aV) 5 false)):=(Kp.refl [] s2).new _;have g3:(St.new s2 (.cells (aj aV) 5 false)).m.g s2.nx=some (.cells (aj aV) 5 false):=ao _ _;have n3:(St.new s2 (.cells (aj aV) 5 false)).nx=s2.nx+1:=rfl;generalize St.new s2 (.cells (aj aV) 5 false)=s3 at*;have sl3:Sl s3 [] (.slice s2.nx 0 100 100 0) 1 (aj aV):=.inr ⟨s2.nx,0,100,100,0,rfl,by rw[bJ,xV],⟨aEQ _,.inl rfl⟩,.inr ⟨uG,qE,_,_,_,g3,by rw[bJ,xV];omega,by rw[aFr,aEX (by rw[bJ,xV];omega)]⟩⟩;have hbA:∀s,bk [.int .i64 0,.str [],.str [],.bool false] [(0,1,.int .i64 1),(1,1,.str [97]),(2,1,.str aV)] s=.ok (.agg (lS cA)) s:=λs=>rfl;have hbB:∀s,bk [.int .i64 0,.str [],.str [],.bool false] [(0,1,.int .i64 1),(1,1,.str [98]),(2,1,.str [120])] s=.ok (.agg (lS cB)) s:=λs=>rfl;have hbX:∀s,bk [.int .i64 0,.str [],.str [],.bool false] [(0,1,.int .i64 1),(1,1,.str [97]),(2,1,.str [120])] s=.ok (.agg (lS cX)) s:=λs=>rfl;rw[sl3.str,af,hbA,af,hbB,af,SJ,aS];have k4:Kp [] s3 (St.new s3 (.cells (hU [cA,cB]) 159 false)):=(Kp.refl [] s3).new _;have g4:(St.new s3 (.cells (hU [cA,cB]) 159 false)).m.g s3.nx=some (.cells (hU [cA,cB]) 159 false):=ao _ _;have n4:(St.new s3 (.cells (hU [cA,cB]) 159 false)).nx=s3.nx+1:=rfl;generalize St.new s3 (.cells (hU [cA,cB]) 159 false)=s4 at*;have kv4:xj κ τ π s4 (OF (2000-1-2000/4)) [] 0 2000:=⟨(kv.1.still k3).still k4,((k4.keep κ (by have:=kv.2.2.1;omega) uG).trans (k3.keep κ kv.2.2.1 uG)).trans kv.2.1,by have:=kv.2.2.1;omega,kv.2.2.2⟩
 have hlt:=kv.1.two.qS;have hav:=xV;refine(Mf kv4 qE qE (sl2 (cs:=[cA,cB]) g4 qE λhh=>by have:=hlt _ hh;omega) u7 uG (λc hc=>?_) (λi hi c hc=>?_)).mono ?_
 .rcases aEP.1 hc with rfl|hc
  .exact⟨Ol _ _ _ qE u7 qE,rfl⟩
  .have:c=cB:=by simpa using hc
   subst this;exact⟨Ol _ _ _ qE u7 u7,rfl⟩
 .rcases i with _|_|i
  .simp at hc
  .have:c=cA:=by simpa using hc
   subst this;show oH cA.nm≠oH cB.nm
   decide
  .simp at hi;omega
 rintro _ s6 ⟨rfl,π6,fr6,ea6,⟨kf6,hn6⟩,kv6,sm6⟩;have K4:=(K2.trans k3 uG).trans k4 uG;have K6:=K4.trans kf6 λq hq=>.inr (Xn q TN);rw[show iA [] [cA,cB]=S0 from rfl]at kv6 sm6;rw[hbX,af,hbA,af,SJ,aS];have k7:Kp [] s6 (St.new s6 (.cells (hU [cX,cA]) 159 false)):=(Kp.refl [] s6).new _;have g7:(St.new s6 (.cells (hU [cX,cA]) 159 false)).m.g s6.nx=some (.cells (hU [cX,cA]) 159 false):=ao _ _;have n7:(St.new s6 (.cells (hU [cX,cA]) 159 false)).nx=s6.nx+1:=rfl;generalize St.new s6 (.cells (hU [cX,cA]) 159 false)=s7 at*;have kv7:=kv6.still k7;refine(Qu kv7 sm6 (sl2 (cs:=[cX,cA]) g7 qE uG) u7).mono ?_;rintro _ s8 ⟨k8,⟨_,rfl⟩|⟨⟨c,hc,hb⟩,_⟩⟩
 .rw[YV,aE,af,aN,aE,af];have kv8:=kv7.still k8;rw[<-ea6];refine(YM kv8 qE qE).mono ?_;rintro _ s9 ⟨κ9,τ9,π9,fr9,rfl,k9,kv9⟩;have K8:=(K6.trans k7 uG).trans k8 uG;have n48:=K4.nx
  have K9:=K8.trans k9 λq hq=>.inr (by
   rcases hn6 q (mo (by unfold PI.all;simp[hq]))with h|h
   .exact Xn q Pb
   .omega)
  rw[aE,af,aN,aE,af,e0,af,ag,aET u7];refine(RX kv9 (p:=(1,[97])) ⟨u7,u7⟩).mono ?_;rintro _ s10 ⟨qh,rfl⟩;have aem:=kv9.still qh;refine(RX aem (p:=(2,[97])) ⟨u7,u7⟩).mono ?_;rintro _ dq ⟨qx,rfl⟩;have amP:=aem.still qx;refine(DV amP (sp:=1) (fm:=[97]) (to:=[98]) ⟨u7,u7⟩ ⟨u7,u7⟩ (by rw[Bi];decide)).mono ?_;rintro _ bO ⟨jb,rfl,qg,c12⟩;rw[Oe]at c12;have gA:fE S0 (oH (1,[97]))=some aV:=by rw[Bi];rfl
  have g2:fE S0 (oH (2,[97]))=none:=by rw[Bi];rfl
  rw[gA,g2];have q0:∀s,ai .eql (some .int) true (I 0) (.int .i64 0) s=.ok (.bool true) s:=λs=>rfl;have q52:∀s,ai .eql (some .int) true (I ((52:Nat):Int)) (.int .i64 52) s=.ok (.bool true) s:=λs=>rfl;have qs:∀s,ai .eql (some .str) false (.str aV) (.str aV) s=.ok (.bool true) s:=λs=>by rw[eA,lA,aEV rfl]
  have hlx:=c12.len 1 (by rw[l7];rfl) qE bO;have q1:∀s,ai .eql (some .int) true (I ((1:Nat):Int)) (.int .i64 1) s=.ok (.bool true) s:=λs=>rfl;obtain⟨b,p,r1,r2⟩:=c12.Qa (i:=0) u7;have r1':cc 2 jb (.int .i64 0) bO=.ok (.ptr b p) bO:=r1 bO;have r2':aI 2 (.ptr b p) bO=.ok (.agg (fS ([97],aV))) bO:=r2;have hbp:bk [.str [],.str []] [(0,1,.str [97]),(1,1,.str aV)] bO=.ok (.agg (fS ([97],aV))) bO:=rfl;simp only[aE,aN,af,q0,aG,aFm,bh,aF,q52,aHr,Option.isSome_none,aGi,qs,cU,aFf,hlx,q1,r1',r2',hbp,Uy];exact⟨aer,((K9.trans qh uG).trans qx uG).trans qg uG⟩
 .exfalso;apply hb;rcases aEP.1 hc with rfl|hc
  .exact Ol _ _ _ qE u7 u7
  .have:c=cA:=by simpa using hc
   subst this;exact Ol _ _ _ qE u7 qE
end
section
variable {v:CV}{cs:List ChM}{S:List (List ChM)}{i:Nat}
def Bm (st:St)(v:CV)(cs:List ChM):Prop:=((v=.ae\/v=.mQ)/\cs=[])\/∃b off cap,v=.slice b off cs.length cap 0/\b<st.nx/\∀i (h:i<cs.length),∃l o,st.m.g b=some (.ro l o)/\∀j x,(lS cs[i])[j]?=some x->l[off+i*4+j]?=some x
def Bl (st:St)(v:CV)(S:List (List ChM)):Prop:=((v=.ae\/v=.mQ)/\S=[])\/∃b off cap,v=.slice b off S.length cap 0/\b<st.nx/\∀i (h:i<S.length),∃l o u,st.m.g b=some (.ro l o)/\l[off+i*5+1]?=some u/\Bm st u S[i]
section
variable {st st':St}
def Bm.keep (h:Bm st v cs)(hk:Kp [] st st'):Bm st' v cs:=by
 rcases h with h|⟨b,off,cap,rfl,hb,lL⟩
 .exact .inl h
 .refine .inr ⟨b,off,cap,rfl,aFg hb hk.nx,λi hi=>?_⟩;obtain⟨l,o,h1,h2⟩:=lL i hi;exact⟨l,o,(hk.keep b hb uG).trans h1,h2⟩
def Bl.keep (h:Bl st v S)(hk:Kp [] st st'):Bl st' v S:=by
 rcases h with h|⟨b,off,cap,rfl,hb,lL⟩
 .exact .inl h
 .refine .inr ⟨b,off,cap,rfl,aFg hb hk.nx,λi hi=>?_⟩;obtain⟨l,o,u,h1,h2,h3⟩:=lL i hi;exact⟨l,o,u,(hk.keep b hb uG).trans h1,h2,h3.keep hk⟩
def Bm.len (h:Bm st v cs)(s:St):bo .slice v s=.ok (I cs.length) s:=by
 rcases h with⟨rfl|rfl,rfl⟩|⟨b,off,cap,rfl,_⟩<;>rfl
def Bl.len (h:Bl st v S)(s:St):bo .slice v s=.ok (I S.length) s:=by
 rcases h with⟨rfl|rfl,rfl⟩|⟨b,off,cap,rfl,_⟩<;>rfl
def Bm.at' (h:Bm st v cs)(hi:i<cs.length):∃b p l o,(∀s,cc 4 v (I i) s=.ok (.ptr b p) s)/\st.m.g b=some (.ro l o)/\∀j x,(lS cs[i])[j]?=some x->l[p+j]?=some x:=by
 rcases h with⟨_,rfl⟩|⟨b,off,cap,rfl,hb,lL⟩
 .simp at hi
 .obtain⟨l,o,h1,h2⟩:=lL i hi;exact⟨b,off+i*4,l,o,λs=>fO hi (.inl rfl) s,h1,h2⟩
def Bl.at' (h:Bl st v S)(hi:i<S.length):∃b p l o u,(∀s,cc 5 v (I i) s=.ok (.ptr b p) s)/\st.m.g b=some (.ro l o)/\l[p+1]?=some u/\Bm st u S[i]:=by
 rcases h with⟨_,rfl⟩|⟨b,off,cap,rfl,hb,lL⟩
 .simp at hi
 .obtain⟨l,o,u,h1,h2,h3⟩:=lL i hi;exact⟨b,off+i*5,l,o,u,λs=>fO hi (.inl rfl) s,h1,h2,h3⟩
def ChM.size (c:ChM):Nat:=c.key.length+c.val.length
def ahY (S:List (List ChM))(st:St)(y:CV)(s:St):Prop:=∃b,y=.bool b/\s=st/\(b=false->S.length<=40/\∀cs∈S,cs.length<=4000)
def UW (h:Bl st v S)(hl:S.length<=9223372036854775807)(hb:∀cs∈S,cs.length<=140737488355328/\∀c∈cs,c.size<=281474976710656):R 26 [v] st (ahY S st):=by
 refine bP ?_;rw[w26,h.len,af,cV];simp only[aL,aM];have ea:∀(a b:Int) s,ai .add none false (I a) (I b) s=.ok (I (IntKind.i64.wrap (a+b))) s:=λa b s=>by rw[az,cO]
 have el:∀(i n:Nat) s,ai .lss none false (I i) (I n) s=.ok (.bool (decide (i<n))) s:=λi n s=>TO
 have ahQ:∀(i:Nat) s,ai .lss none true (I i) (.int .i64 100) s=.ok (.bool (decide (i<100))) s:=λi s=>TO
 have cond:∀(i n:Nat) s (A B:Prop),(i<n->i<100->A)->(¬(i<n/\i<100)->B)->us (aZ (ak true (.bool (decide (i<n)))) s (.ok (I i) s)) λx8=>us (aZ (ak true (.bool (decide (i<n)))) s (ai .lss none true x8 (.int .i64 100) s)) λx9=>us (aX (.bool (decide (i<n))) x9 (.bool false) s) λdd=>aD dd A B:=by
  intro i n s A B hA hB
  by_cases h1:i<n
  .by_cases h2:i<100
   .simp only[aEV h1,aG,aFm,bh,af,ahQ,aEV h2,aF,ag];exact hA h1 h2
   .simp only[aEV h1,aG,aFm,bh,af,ahQ,aEO h2,aF,ag,aEM,aFa];exact hB qE
  .simp only[aEO h1,aG,aFm,bS,af,aF,ag,aEM,aFa];exact hB qE
 refine bN (λfu vs s=>∃(i:Nat) (n:Int),fu+i=100/\vs=[v,I n,I i]/\s=st/\(S.length<=40->0<=n/\n<=40+i*10000000000000000/\∀cs∈S.take i,(cs.length:Int)<=n)) ?_ (n:=100) ⟨0,S.length,rfl,rfl,rfl,λh=>vR⟩;rintro fu vs s K ⟨i,n,hi,rfl,rfl,hI⟩ next;simp only[aL,aM];rw[h.len,af,el,af];refine cond _ _ _ _ _ (λhc aBo=>?_) (λhc=>?_)
 .obtain⟨b,p,l,o,u,q1,q2,q3,hu⟩:=h.at' hc;obtain⟨hlen,hsz⟩:=hb _ (aFj hc)
  have f1:∀K:CV->Prop,K u->yR 5 1 v (I i) s K:=λK hK=>by
   unfold yR;rw[q1,af,ah,af,aB,q2,xE,q3];exact hK
  refine f1 _ ?_;rw[hu.len,af,ea,af,cV];simp only[aL,aM]
  refine bN (λfu vs s'=>∃(k:Nat) (m:Int),fu+k=100/\vs=[v,I m,I i,I k]/\s'=s/\(S.length<=40->n+S[i].length<=m/\m<=n+S[i].length+k*20000000000000)) ?_ (n:=100) ⟨0,_,rfl,rfl,rfl,λRT=>by
   obtain⟨i1,i2,_⟩:=hI RT;rw[bz qE];omega⟩
  rintro fu2 vs2 s2 K2 ⟨k,m,hk,rfl,rfl,hM⟩ Gy;simp only[aL,aM];refine f1 _ ?_;rw[hu.len,af,el,af];refine cond _ _ _ _ _ (λrh auf=>?_) (λrh=>?_)
  .obtain⟨b2,p2,l2,o2,r1,r2,r3⟩:=hu.at' rh;have a1:=r3 1 _ rfl;have a2:=r3 2 _ rfl;have hs:S[i][k].key.length+S[i][k].val.length<=281474976710656:=hsz _ (aFj rh);have e38:ai .add none false (I S[i][k].val.length) (I S[i][k].key.length) s2=.ok (I ((S[i][k].val.length+S[i][k].key.length:Nat):Int)) s2:=by rw[ea,bz qE];congr 2
   have e39:ai .quo none true (I ((S[i][k].val.length+S[i][k].key.length:Nat):Int)) (.int .i64 40) s2=.ok (I (((S[i][k].val.length+S[i][k].key.length)/40:Nat):Int)) s2:=by
    have e1:ai .quo none true (I ((S[i][k].val.length+S[i][k].key.length:Nat):Int)) (.int .i64 40) s2=.ok (I (IntKind.i64.wrap (Int.tdiv ((S[i][k].val.length+S[i][k].key.length:Nat):Int) 40))) s2:=rfl;have e2:Int.tdiv ((S[i][k].val.length+S[i][k].key.length:Nat):Int) 40=(((S[i][k].val.length+S[i][k].key.length)/40:Nat):Int):=rfl;rw[e1,e2,bz qE]
   simp only[bG,q1,af,ah,aB,q2,xE,q3,ay,r1,r2,a1,a2,fg,e38,e39,ea];refine⟨⟨aer,aer,aer,aer,aer⟩,aer,?_⟩;rw[gH k qE,af];refine Gy (fu2-1) _ _ qE ⟨k+1,_,qE,rfl,rfl,λRT=>?_⟩;obtain⟨i1,i2,_⟩:=hI RT;obtain⟨m1,m2⟩:=hM RT;rw[bz qE];omega
  .rw[gH i qE,af];refine next (fu-1) _ _ qE ⟨i+1,m,qE,rfl,rfl,λRT=>?_⟩;obtain⟨i1,i2,i3⟩:=hI RT;obtain⟨m1,m2⟩:=hM RT;refine⟨qE,qE,λcs hcs=>?_⟩;rw[aFe hc,aEY]at hcs;rcases hcs with h1|h1
   .have:=i3 cs h1;omega
   .have:cs=S[i]:=by simpa using h1
    subst this;omega
 .have e43:ai .gtr none true (I n) (.int .i64 4000) s=.ok (.bool (decide (4000<n))) s:=by rw[az,dx]
  have e46:ai .gtr none true (I S.length) (.int .i64 40) s=.ok (.bool (decide (40<S.length))) s:=zz
  rw[e43,af,aG]
  by_cases h4:4000<n
  .simp only[aEV h4,aFh,aEM,aFa,bS,af,aF,aFm];exact⟨true,rfl,rfl,λh=>by cases h⟩
  .simp only[aEO h4,aFf,aEM,aFa,bh,af,aF,h.len,e46];refine⟨_,rfl,rfl,λhf=>?_⟩
   have RT:S.length<=40:=by have:¬40<S.length:=by simpa using hf
                            omega
   refine⟨RT,λcs hcs=>?_⟩;obtain⟨i1,i2,i3⟩:=hI RT;rw[aEX qE]at i3;have:=i3 cs hcs;omega
def VV (c:ChM):R 28 [.agg (lS c)] st λv s=>v=.bool (GC c)/\Kp [] st s:=by
 refine bP ?_;rw[w28,bV];refine⟨rfl,?_⟩;unfold lS;rw[aT];generalize hl:[I c.sp,CV.str c.key,.str c.val,.bool c.gone]=l;have l0:l[0]?=some (I c.sp):=O6
 have l1:l[1]?=some (.str c.key):=O6
 have l2:l[2]?=some (.str c.val):=O6
 have l3:l[3]?=some (.bool c.gone):=O6
 have K:Kp [] st (St.new st (.cells l 65 false)):=(Kp.refl [] st).new _;have g1:(St.new st (.cells l 65 false)).m.g st.nx=some (.cells l 65 false):=ao _ _;generalize St.new st (.cells l 65 false)=s2 at*;have e3:ai .leq none true (I c.val.length) (.int .i64 8192) s2=.ok (.bool (decide (c.val.length<=8192))) s2:=IN
 have e2:ai .leq none true (I c.key.length) (.int .i64 47) s2=.ok (.bool (decide (c.key.length<=47))) s2:=IN
 have e4:ai .eql (some .str) true (.str c.val) (.str []) s2=.ok (.bool (decide (c.val=[]))) s2:=by rw[eA,lA]
 have e0:ai .geq none true (I c.sp) (.int .i64 0) s2=.ok (.bool (decide (0<=c.sp))) s2:=by rw[az,sG]
 have e1:ai .leq none true (I c.sp) (.int .i64 255) s2=.ok (.bool (decide (c.sp<=255))) s2:=by rw[az,iy]
 have hm:GC c=(decide (0<=c.sp)&&(decide (c.sp<=255)&&(decide (c.key.length<=47)&&(decide (c.val.length<=8192)&&(!c.gone||decide (c.val=[])))))):=by
  have e:decide (uC c.nm)=(decide (0<=c.sp)&&(decide (c.sp<=255)&&decide (c.key.length<=47))):=by
   rw[aGU];simp only[aFl,aGa];constructor
   .rintro⟨⟨a,b⟩,d⟩;exact⟨a,by have:c.sp<256:=b;omega,d⟩
   .rintro⟨a,b,d⟩;exact⟨⟨a,show c.sp<256 from qE⟩,d⟩
  rw[KZ,e,Bool.and_assoc,Bool.and_assoc]
 rw[hm];simp only[fl,gQ,ah,af,aB,g1,aq,aER,l0,ay,e0,aG,aFm]
 by_cases h0:0<=c.sp
 .simp only[aEV h0,bh,af,aB,g1,aq,l0,ay,e1,aF,aFm,aG,aHz]
  by_cases h1:c.sp<=255
  .simp only[aEV h1,bh,af,aB,g1,aq,l1,ay,fg,e2,aF,aFm,aG,aHz]
   by_cases h2:c.key.length<=47
   .simp only[aEV h2,bh,af,aB,g1,aq,l2,ay,fg,e3,aF,aFm,aG,aHz]
    by_cases h3:c.val.length<=8192
    .simp only[aEV h3,bh,af,aB,g1,aq,l3,ay,cU,aG,aFm,aHz];cases hg:c.gone
     .simp only[aFf,aFh,aFa,aEM,bS,af,aF,aFm];exact⟨uG,K⟩
     .simp only[aFh,aFf,aFa,aEM,bh,af,aB,g1,aq,l2,ay,e4,aF];exact⟨uG,K⟩
    .simp only[aEO h3,aFa,aEM,bS,af,oQ,aHD];exact⟨aer,K⟩
   .simp only[aEO h2,aFa,aEM,bS,af,aF,aHD,aG];exact⟨aer,K⟩
  .simp only[aEO h1,aFa,aEM,bS,af,aF,aHD,aG];exact⟨aer,K⟩
 .simp only[aEO h0,aFa,aEM,bS,af,aF,aHD,aG];exact⟨aer,K⟩
def alM (a:Int)(m:Nat)(hm:m<100000)(s:St):∃n:Nat,n<=m/\∀K:CV->Prop,K (I n)->us (cW (.toInt .u64) (I a) s) λOL=>us (ai .add none true (I m) (.int .i64 1) s) λTi=>us (cW (.toInt .u64) Ti s) λTh=>us (ai .rem none false OL Th s) λTf=>us (cW (.toInt .i64) Tf s) K:=by
 obtain⟨n,hn,hK⟩:=alN a (m+1) qE qE;refine⟨n,qE,λK h=>?_⟩;have e87:=gH m qE s none
 have e88:cW (.toInt .u64) (I ((m+1:Nat):Int)) s=.ok (.int .u64 ((m+1:Nat):Int)) s:=by
  have e1:cW (.toInt .u64) (I ((m+1:Nat):Int)) s=.ok (.int .u64 (IntKind.u64.wrap ((m+1:Nat):Int))) s:=rfl;rw[e1,IntKind.wrap_u64]
  congr 2
  exact Int.emod_eq_of_lt qE qE
 have h1:=hK s K h;have e0:cW (.toInt .u64) (I a) s=.ok (.int .u64 (IntKind.u64.wrap a)) s:=rfl;rw[e0,af]at h1⊢;rw[e87,af,e88,af];exact h1
end
end
section
variable {τ N:Nat}{π:PI}{Gk:GM}{Lk:List bq}{X:List Nat}
structure Dn (B:Nat)(c:ChM)(kK:St)(n T κ1 τ1:Nat)(π1:PI)(κ2 τ2:Nat)(π2:PI)(s:St)(L L':List bq):Prop where
 k1:∃T1 fr,T1<=T/\oF κ1 τ1 π1 s L L T1 4000 fr
 k2:∃T1 fr,T1<=T/\oF κ2 τ2 π2 s L' L' T1 4000 fr
 s1:Small L
 s2:Small L'
 n1:L.length<=n
 n2:L'.length<=n
 L5:∀b∈κ1::own τ1 π1,b∉κ2::own τ2 π2
 w1:∀b∈κ1::own τ1 π1,kK.nx<=b/\b≠B
 w2:∀b∈κ2::own τ2 π2,kK.nx<=b/\b≠B
 box:s.m.g B=some (.cells (lS c) 65 false)
 lt:B<s.nx
 kp:Kp [] kK s
def Dd (cs:List ChM):∀L:List bq,(iA L cs).length<=L.length+cs.length:=by
 induction cs with
 |nil=>intro L;exact aEQ _
 |cons c r ih=>
  intro L;have h1:=ih (ET L c);have h2:=abc L c;rw[aFp];show(iA (ET L c) r).length<=_;omega
section
variable {B n T κ1 τ1 κ2 τ2:Nat} {c:ChM} {kK s s' st st':St} {π1 π2:PI} {L L':List bq}
def Dn.swap (h:Dn B c kK n T κ1 τ1 π1 κ2 τ2 π2 s L L'):Dn B c kK n T κ2 τ2 π2 κ1 τ1 π1 s L' L:=
 ⟨h.k2,h.k1,h.s2,h.s1,h.n2,h.n1,λb hb hh=>h.L5 b hh hb,h.w2,h.w1,h.box,h.lt,h.kp⟩
def Dn.still (h:Dn B c kK n T κ1 τ1 π1 κ2 τ2 π2 s L L')(hk:Kp [] s s'):Dn B c kK n T κ1 τ1 π1 κ2 τ2 π2 s' L L':=by
 obtain⟨T1,f1,a1,b1⟩:=h.k1;obtain⟨T2,f2,a2,b2⟩:=h.k2;exact⟨⟨T1,f1,a1,b1.still hk⟩,⟨T2,f2,a2,b2.still hk⟩,h.s1,h.s2,h.n1,h.n2,h.L5,h.w1,h.w2,(hk.keep B h.lt uG).trans h.box,aFg h.lt hk.nx,h.kp.trans hk uG⟩
def Dn.more {n' T':Nat}(h:Dn B c kK n T κ1 τ1 π1 κ2 τ2 π2 s L L')(hn:n<=n')(hT:T<=T'):Dn B c kK n' T' κ1 τ1 π1 κ2 τ2 π2 s L L':=by
 obtain⟨T1,f1,a1,b1⟩:=h.k1;obtain⟨T2,f2,a2,b2⟩:=h.k2;exact⟨⟨T1,f1,qE,b1⟩,⟨T2,f2,qE,b2⟩,h.s1,h.s2,acX,by have:=h.n2;omega,h.L5,h.w1,h.w2,h.box,h.lt,h.kp⟩
def Dn.MV (h:Dn B c kK n T κ1 τ1 π1 κ2 τ2 π2 s L L'):∀b∈own τ1 π1,b<s.nx:=by obtain⟨_,_,_,b1⟩:=h.k1;exact b1.tr.qS
def Dn.fresh (h:Dn B c kK n T κ1 τ1 π1 κ2 τ2 π2 s L L'):eH s:=by
 obtain⟨_,_,_,b1⟩:=h.k1;obtain⟨⟨G,Gk,ht,_⟩,_⟩:=b1.tr;exact ht.fr
def Dn.batch (h:Dn B c kK n T κ1 τ1 π1 κ2 τ2 π2 s L L'){v:CV}{cs:List ChM}(hv:Sl s [] v 4 (hU cs))(hn:cs.length<=4000)(hT:T<=800000000){K:CV->St->Prop}
 (hK:∀(e:Nat) s' π',(e=0\/e=1\/e=3)->(e=0->∀c∈cs,c.ok)->Kp (own τ1 π1) s s'->Dn B c kK (n+4000) (T+10000) κ1 τ1 π' κ2 τ2 π2 s' (if e=0 then iA L cs else L) L'->K (I e) s'):
 R 32 [v] s λOM vj=>R 31 [.ptr κ1 0,OM] vj K:=by
 refine(LU h.fresh hv qE).mono ?_;rintro x s1 hm;have hx:=hm.sl (own τ1 π1) h.MV;obtain⟨F,k1,_,_⟩:=hm;have h1:=h.still k1;obtain⟨T1,f1,a1,b1⟩:=h1.k1;refine(VZ b1 h.s1 hx qE qE qE).mono ?_;rintro _ s2 ⟨e,rfl,he,mU,π',T',fr',L2,ea,hT',⟨kf,Nn⟩,kv,sm,rfl⟩;have KK:=(k1.mono uG).trans kf ael;obtain⟨T2,f2,a2,b2⟩:=h1.k2
 have yS:∀b∈κ1::own τ1 π',b∈κ1::own τ1 π1\/s1.nx<=b:=λb hb=>by
  rcases aEP.1 hb with h|h
  .left;simp[h]
  .exact(Nn b h).imp (λh=>aFE _ h) id
 have Fg:∀b∈κ2::own τ2 π2,b<s1.nx:=λb hb=>by
  rcases aEP.1 hb with h|h
  .rw[h];exact b2.lt
  .exact b2.tr.qS b h
 have rO:=h1.kp.nx;have hlt:=h1.lt;refine hK e s2 π' he mU KK ⟨⟨T',fr',qE,kv⟩,⟨T2,f2,qE,b2.off kf λb hb hh=>h.L5 b (aFE _ hh) hb⟩,sm,h.s2,?_,by have:=h.n2;omega,λb hb hh=>?_,λb hb=>?_,h.w2,(kf.keep B hlt λhh=>(h.w1 B (aFE _ hh)).2 rfl).trans h1.box,aFg hlt kf.nx,h1.kp.trans kf λq hq=>.inr (h.w1 q (aFE _ hq)).1⟩
 .have h3:=Dd cs L;have h4:=h.n1
  split<;>omega
 .rcases yS b hb with h3|h3
  .exact h.L5 b h3 hh
  .have:=Fg b hh;omega
 .rcases yS b hb with h3|h3
  .exact h.w1 b h3
  .exact⟨qE,qE⟩
def Fm.off {G:GM}{L:List bq}(h:Fm τ π st G Gk L Lk T N)(hk:Kp X st st')(hx:∀b∈own τ π,b∉X):Fm τ π st' G Gk L Lk T N:=by
 obtain⟨ht,hL,BW,Fl,oI,hc,hl⟩:=h;obtain⟨ty,g,hg⟩:=ht.get;exact⟨⟨ht.pg.keep hk λb hb=>hx b (mo hb),aFg ht.lt hk.nx,ht.not,⟨ty,g,(hk.keep τ ht.lt (hx τ (by simp[own]))).trans hg⟩,hk.fresh ht.fr⟩,hL,BW.keep hk λr' e=>hx r' (by unfold own;rw[e];simp),Fl,oI,hc,hl⟩
def xj.off {κ:Nat}(h:xj κ τ π st Gk Lk T N)(hk:Kp X st st')(hx:∀b∈κ::own τ π,b∉X):xj κ τ π st' Gk Lk T N:=
 ⟨h.1.off hk λb hb=>hx b O2,(hk.keep κ h.2.2.1 (hx κ uG)).trans h.2.1,aFg h.2.2.1 hk.nx,h.2.2.2⟩
def NR (cs:List ChM)(i:Nat)(hi:i<=cs.length):(hU cs).take (i*4)=hU (cs.take i):=by
 unfold hU;rw[qm (HL cs) i O1,aGx]
def NT (cs:List ChM)(i:Nat)(hi:i<=cs.length):(hU cs).drop (i*4)=hU (cs.drop i):=by
 unfold hU;rw[qp (HL cs) i O1,aGl]
def FW (h:Dn B c kK n T κ1 τ1 π1 κ2 τ2 π2 s L L)(hn:n<=1000000)(Q:CV->St->Prop)(hQ:∀s',Kp [] kK s'->Q (.bool true) s'):
 dK (λIS MF=>
 cZ (λsi PL Zf=>
 us (ai .lss (none) true (au 2 si) (.int .i64 256) PL) λIM=>
 aD IM (
 R 34 [(au 0 si),(au 2 si),(.str []),(.str [])] PL λDw zO=>
 us (av Dw 0 zO) λnP=>
 us (av Dw 1 zO) λIL=>
 R 34 [(au 1 si),(au 2 si),(.str []),(.str [])] zO λDv lK=>
 us (av Dv 0 lK) λDu=>
 us (av Dv 1 lK) λFs=>
 us (ai .neq (some .int) true IL (.int .i64 0) lK) λyL=>
 us (aZ (ak false yL) lK (.ok Fs lK)) λIK=>
 us (aZ (ak false yL) lK (ai .neq (some .int) true IK (.int .i64 0) lK)) λIJ=>
 us (aX yL (.bool true) IJ lK) λr7=>
 us (aZ (ak false r7) lK (.ok nP lK)) λII=>
 us (aZ (ak false r7) lK (bo .slice II lK)) λIG=>
 us (aZ (ak false r7) lK (.ok Du lK)) λFq=>
 us (aZ (ak false r7) lK (bo .slice Fq lK)) λIF=>
 us (aZ (ak false r7) lK (ai .neq (some .int) false IG IF lK)) λIE=>
 us (aX r7 (.bool true) IE lK) λID=>
 aD ID (
 Q (.bool false) lK) (
 dK (λxu ME=>
 cZ (λkN uK Zd=>
 us (bo .slice (au 3 kN) uK) λMq=>
 us (ai .lss (none) false (au 5 kN) Mq uK) λOV=>
 aD OV (
 bX (
 us (cc 2 (au 3 kN) (au 5 kN) uK) λOU=>
 us (aI 2 OU uK) λOT=>
 us (cc 2 (au 4 kN) (au 5 kN) uK) λOS=>
 us (aI 2 OS uK) λOQ=>
 us (ai .neq (some (.struct (.cons 0 1 false .str (.cons 1 1 false .str .nil)))) false OT OQ uK) λOP=>
 ((True)/\(True)/\True)/\(True)/\
 aD OP (
 Q (.bool false) uK) (
 us (ai .add (none) true (au 5 kN) (.int .i64 1) uK) λOO=>
 Zd [(au 0 kN),(au 1 kN),(au 2 kN),(au 3 kN),(au 4 kN),OO] uK))) (
 us (ai .add (none) true (au 2 kN) (.int .i64 1) uK) λON=>
 Zf [(au 0 kN),(au 1 kN),ON] uK)) [(au 0 xu),(au 1 xu),(au 2 xu),(au 3 xu),(au 4 xu),(au 5 xu)] ME) λZe=>
 Ze [(au 0 si),(au 1 si),(au 2 si),nP,Du,(.int .i64 0)] lK)) (
 Q (.bool true) PL)) [(au 0 IS),(au 1 IS),(au 2 IS)] MF) λZg=>
 Zg [.ptr κ1 0,.ptr κ2 0,(.int .i64 0)] s:=by
 rw[cV];simp only[aL,aM];refine bN (λfu vs s=>∃i:Nat,fu+i=256/\vs=[.ptr κ1 0,.ptr κ2 0,I i]/\Dn B c kK n T κ1 τ1 π1 κ2 τ2 π2 s L L) ?_ (n:=256) ⟨0,rfl,rfl,h⟩;rintro fu vs s K ⟨i,hi,rfl,h⟩ next;simp only[aL,aM];have el:ai .lss none true (I i) (.int .i64 256) s=.ok (.bool (decide (i<256))) s:=TO
 rw[el,af,ag]
 by_cases hc:i<256
 .rw[aEV hc,aEW rfl];have hnm:uC ((i:Int),[]):=⟨⟨by dsimp only;omega,by dsimp only;omega⟩,uG⟩;have e0:∀s,ai .neq (some .int) true (I 0) (.int .i64 0) s=.ok (.bool false) s:=λs=>rfl;obtain⟨T1,f1,a1,b1⟩:=h.k1;refine(DV b1 hnm hnm acX).mono ?_;rintro _ s1 ⟨xa,rfl,k1,c1⟩;rw[aE,af,aN,aE,af];have h1:=h.still k1;obtain⟨T2,f2,a2,b2⟩:=h1.k2;refine(DV b2 hnm hnm acX).mono ?_;rintro _ s2 ⟨xb,rfl,k2,c2⟩;rw[aE,af,aN,aE,af];have h2:=h1.still k2;have c1:=c1.mono k2
  have hM:(vn L i [] []).length<=1000000:=by
   unfold vn;rw[aFK];exact aGb (aHf _ _) acX
  generalize vn L i [] []=M at*;have l1:=c1.len M.length (l7 _) qE;have l2:=c2.len M.length (l7 _) qE;have arZ:ai .neq (some .int) false (I M.length) (I M.length) s2=.ok (.bool false) s2:=by rw[az,fh,aEV rfl];rfl
  simp only[e0,af,aG,aFf,aEM,aFa,bh,aF,l1,l2,arZ,ag,cV,aL,aM];refine bN (λfu vs s'=>∃j:Nat,fu+j=M.length/\vs=[.ptr κ1 0,.ptr κ2 0,I i,xa,xb,I j]/\s'=s2) ?_ (n:=M.length) ⟨0,rfl,rfl,rfl⟩;rintro fu2 vs s3 K2 ⟨j,hj,rfl,rfl⟩ Gy;simp only[aL,aM];rw[l1,af,dC,af,ag]
  by_cases J8:j<M.length
  .obtain⟨ba,pa,r1,r2⟩:=c1.Qa J8;obtain⟨bb,pb,r3,r4⟩:=c2.Qa J8;rw[aEV J8,aEW rfl,bG,r1,af,r2,af,r3,af,r4,af,Ux,af];refine⟨⟨aer,aer,aer⟩,aer,?_⟩;rw[ag,aET u7,gH j qE,af];exact Gy (fu2-1) _ _ qE ⟨j+1,qE,rfl,rfl⟩
  .rw[aEO J8,aET u7,gH i qE,af];exact next (fu-1) _ _ qE ⟨i+1,qE,rfl,h2⟩
 .rw[aEO hc,aET u7];exact hQ s h.kp
end
end
section
variable {s:St}{v0:CV}{S:List (List ChM)}{c:ChM}
def ChM.other (c d:ChM):Bool:=decide (d.nm≠c.nm)
def SD (cs:List ChM)(d:ChM):hU cs++lS d=hU (cs++[d]):=by
 unfold hU;rw[aFR,aGJ];simp
def ahJ {a2 p1 p2:CV}{b i:Nat}(hA:Bl s v0 S)(hi:i<S.length)(hn:S[i].length<=4000)(aqd:s.m.g b=some (.cells (lS c) 65 false))(hb:b<s.nx)(E:List CV->St->Prop)
 (hE:∀x F s',Own s' x 4 65 (hU (S[i].filter c.other)) F->Kp [] s s'->(∀q∈F,s.nx<=q/\q<s'.nx)->E [v0,a2,.ptr b 0,p1,p2,I i,x,I S[i].length] s'):
 dK (λzA gY=>
 cZ (λgh bU Tn=>
 yR 5 1 (au 0 gh) (au 5 gh) bU λuh=>
 us (bo .slice uh bU) λrZ=>
 us (ai .lss (none) false (au 7 gh) rZ bU) λrW=>
 aD rW (
 bX (
 us (cc 5 (au 0 gh) (au 5 gh) bU) λuE=>
 us (an 1 uE bU) λya=>
 us (aC ya bU) λqw=>
 us (cc 4 qw (au 7 gh) bU) λuZ=>
 us (an 0 uZ bU) λmY=>
 us (aC mY bU) λuD=>
 us (an 0 (au 2 gh) bU) λug=>
 us (aC ug bU) λlJ=>
 us (ai .neq (some .int) false uD lJ bU) λmO=>
 us (aZ (ak false mO) bU (.ok (au 0 gh) bU)) λmB=>
 us (aZ (ak false mO) bU (.ok (au 5 gh) bU)) λxZ=>
 us (aZ (ak false mO) bU (cc 5 mB xZ bU)) λyK=>
 us (aZ (ak false mO) bU (an 1 yK bU)) λxY=>
 us (aZ (ak false mO) bU (aC xY bU)) λrV=>
 us (aZ (ak false mO) bU (.ok (au 7 gh) bU)) λrS=>
 us (aZ (ak false mO) bU (cc 4 rV rS bU)) λCh=>
 us (aZ (ak false mO) bU (an 1 Ch bU)) λzc=>
 us (aZ (ak false mO) bU (aC zc bU)) λIC=>
 us (aZ (ak false mO) bU (an 1 (au 2 gh) bU)) λBu=>
 us (aZ (ak false mO) bU (aC Bu bU)) λIB=>
 us (aZ (ak false mO) bU (ai .neq (some .str) false IC IB bU)) λrR=>
 us (aX mO (.bool true) rR bU) λMp=>
 ((True)/\(True)/\(True)/\(True)/\(True)/\(True)/\True)/\(True)/\
 aD Mp (
 yR 5 1 (au 0 gh) (au 5 gh) bU λIl=>
 hO 4 4 Il (au 7 gh) bU λIk=>
 upon (bM 65 1 (cM 1 [(.int .i64 0),(.str []),(.str []),(.bool false)]) [(0,4,Ik)] bU) λDt jd=>
 upon (bT 65 4 48 (au 6 gh) (de .slice 4 [(.int .i64 0),(.str []),(.str []),(.bool false)] Dt jd) jd) λKw dp=>
 us (ai .add (none) true (au 7 gh) (.int .i64 1) dp) λMo=>
 Tn [(au 0 gh),(au 1 gh),(au 2 gh),(au 3 gh),(au 4 gh),(au 5 gh),Kw,Mo] dp) (
 us (ai .add (none) true (au 7 gh) (.int .i64 1) bU) λMn=>
 Tn [(au 0 gh),(au 1 gh),(au 2 gh),(au 3 gh),(au 4 gh),(au 5 gh),(au 6 gh),Mn] bU))) (E gh bU)) [(au 0 zA),(au 1 zA),(au 2 zA),(au 3 zA),(au 4 zA),(au 5 zA),(au 6 zA),(au 7 zA)] gY) λWL=>
 WL [v0,a2,.ptr b 0,p1,p2,I i,.ae,(.int .i64 0)] s:=by
 rw[cV];simp only[aL,aM];refine bN (λfu vs s'=>∃j x F,fu+j=S[i].length/\vs=[v0,a2,.ptr b 0,p1,p2,I i,x,I j]/\Kp [] s s'/\Own s' x 4 65 (hU ((S[i].take j).filter c.other)) F/\∀q∈F,s.nx<=q/\q<s'.nx) ?_ (n:=S[i].length) ⟨0,.ae,[],rfl,rfl,Kp.refl _ _,.inl ⟨rfl,rfl,rfl⟩,uG⟩;rintro fu vs s1 K ⟨j,x,F,hj,rfl,hk,own,hF⟩ next;simp only[aL,aM];obtain⟨b1,q,l,o,u,q1,q2,q3,hu⟩:=(hA.keep hk).at' hi
 have f1:∀K:CV->Prop,K u->yR 5 1 v0 (I i) s1 K:=λK hK=>by
  unfold yR;rw[q1,af,ah,af,aB,q2,xE,q3];exact hK
 refine f1 _ ?_;rw[hu.len,af,dC,af,ag]
 by_cases hc:j<S[i].length
 .rw[aEV hc,aEW rfl];obtain⟨b2,p,l2,o2,r1,r2,r3⟩:=hu.at' hc;have hd:(S[i].take (j+1)).filter c.other=(S[i].take j).filter c.other++[S[i][j]].filter c.other:=by rw[aFe hc,aGy]
  generalize S[i][j]=d at*;have gb:=(hk.keep b).trans aqd;have a0:=r3 0 _ rfl;have a1:=r3 1 _ rfl;have c0:(lS c)[0]?=some (I c.sp):=rfl;have c1:(lS c)[1]?=some (.str c.key):=rfl;have e63:ai .neq (some .int) false (I d.sp) (I c.sp) s1=.ok (.bool (!decide (d.sp=c.sp))) s1:=by rw[az,fh]
  have e75:ai .neq (some .str) false (.str d.key) (.str c.key) s1=.ok (.bool (!decide (d.key=c.key))) s1:=by rw[eA,nX]
  have aoh:c.other d=(!decide (d.sp=c.sp)|| !decide (d.key=c.key)):=by
   obtain⟨x1,x2,_,_⟩:=c;obtain⟨y1,y2,_,_⟩:=d
   by_cases h1:y1=x1<;>by_cases h2:y2=x2<;>simp[ChM.other,ChM.nm,h1,h2]
  have go:∀(A B:Prop),(c.other d=true->A)->(c.other d=false->B)->aD (.bool (c.other d)) A B:=λA B hA hB=>by
   rw[ag];cases h:c.other d with
   |true=>exact hA h
   |false=>exact hB h
  simp only[bG,q1,af,ah,aB,q2,xE,q3,ay,r1,r2,a0,gb,aq,aER,c0,e63,aG,aEM,aFa,Bool.not_not]
  have cont:aD (.bool (c.other d)) (yR 5 1 v0 (I i) s1 λIl=>hO 4 4 Il (I j) s1 λIk=>upon (bM 65 1 (cM 1 [(.int .i64 0),(.str []),(.str []),(.bool false)]) [(0,4,Ik)] s1) λDt jd=>upon (bT 65 4 48 x (de .slice 4 [(.int .i64 0),(.str []),(.str []),(.bool false)] Dt jd) jd) λKw dp=>us (ai .add (none) true (I j) (.int .i64 1) dp) λMo=>K [v0,a2,.ptr b 0,p1,p2,I i,Kw,Mo] dp) (us (ai .add (none) true (I j) (.int .i64 1) s1) λMn=>K [v0,a2,.ptr b 0,p1,p2,I i,x,Mn] s1):=by
   refine go _ _ (λho=>?_) (λho=>?_)
   .rw[List.filter_cons_of_pos ho,List.filter_nil]at hd;refine f1 _ ?_;unfold hO;rw[r1,af,so,r2,xE,show gV l2 p 4=some (lS d)from UU (row:=lS d) r3 (by simp[lS])];show upon _ _
    have lt4:((S[i].take j).filter c.other).length<=4000:=by
     have:=aHf c.other (S[i].take j);rw[aFc]at this;omega
    refine V0 (x:=.agg (lS d)) (z:=[.int .i64 0,.str [],.str [],.bool false]) 48 own qE (λq hq=>(hF q hq).2) rfl rfl rfl rfl (by rw[jj];omega) ?_;intro v' s4 F4 o4 k4 hF4;rw[aT,SD,<-hd]at o4;rw[gH j qE,af];have nk:=hk.nx;refine next (fu-1) _ _ qE ⟨j+1,v',F4,qE,rfl,hk.trans k4 λq hq=>.inr (hF q hq).1,o4,λq hq=>⟨?_,(hF4 q hq).2⟩⟩;rcases(hF4 q hq).1 with h|h
    .exact(hF q h).1
    .omega
   .rw[List.filter_cons_of_neg (by simp[ho]),List.filter_nil,aFN]at hd;rw[gH j qE,af];exact next (fu-1) _ _ qE ⟨j+1,x,F,qE,rfl,hk,by rw[hd];exact own,hF⟩
  rw[aoh]at cont
  by_cases h1:d.sp=c.sp
  .simp only[aEV h1,aFh,Bool.false_or]at cont;simp only[aEV h1,aFh,bh,af,ah,q1,aB,q2,xE,q3,ay,r1,r2,a1,gb,aq,c1,e75,aF,aEM,aFa];exact⟨uG,aer,cont⟩
  .simp only[aEO h1,aFf,Bool.true_or]at cont;simp only[aEO h1,aFf,bS,af,aF,aFm];exact⟨uG,aer,cont⟩
 .rw[aEO hc,aET u7];rw[aEX qE]at own;have:j=S[i].length:=by omega
  subst this;exact hE x F s1 own hk hF
def alO (a:Int)(m:Nat)(hm:m<100000){x:CV}(hx:bo .slice x s=.ok (I m) s):∃n:Nat,n<=m/\∀K:CV->Prop,K (I n)->us (cW (.toInt .u64) (I a) s) λOL=>us (bo .slice x s) λTj=>us (ai .add none true Tj (.int .i64 1) s) λTi=>us (cW (.toInt .u64) Ti s) λTh=>us (ai .rem none false OL Th s) λTf=>us (cW (.toInt .i64) Tf s) K:=by
 obtain⟨n,hn,hK⟩:=alM a m hm s;refine⟨n,hn,λK h=>?_⟩;have h1:=hK K h;have e0:cW (.toInt .u64) (I a) s=.ok (.int .u64 (IntKind.u64.wrap a)) s:=rfl;rw[e0,af]at h1⊢;rw[hx,af];exact h1
def abn (hg:c.gone=false):Alike (oH c.nm) c.val (iA [] [c]) []:=by
 refine⟨?_,λkey hk=>?_⟩
 .show fE (ET [] c) _=_;rw[ri,aEW rfl,hg];rfl
 .show fE (ET [] c) _=_;rw[ri,aET hk]
section
variable {st:St}
set_option maxHeartbeats 2000000 in
def abl (hA:Bl st v0 S)(hf:eH st)(hl:S.length<=9223372036854775807)(hsz:∀cs∈S,cs.length<=140737488355328/\∀c∈cs,c.size<=281474976710656)(c:ChM)(cut:Int){Q:CV->St->Prop}(hQ:∀s,Kp [] st s->Q (.bool true) s):
 R 6 [v0,.agg (lS c),I cut] st Q:=by
 refine bP ?_;rw[w6,bV];refine⟨rfl,?_⟩;rw[aT];generalize JN:St.new st _=s1;obtain⟨k1,g1,n1⟩:=Qs JN;have aw:∀s,Kp [] st s->R 27 [] s Q:=λs k=>(Me (k.fresh hf)).mono λy s' ⟨h1,h2⟩=>by subst h1;exact hQ _ (k.trans h2)
 refine(UW (hA.keep k1) hl hsz).mono ?_;rintro _ s ⟨lg,rfl,e,BV⟩;subst e;cases lg with
 |true=>
  simp only[aG,aFh,aEM,aFa,pz,bS,af,aF,aFm,gQ,ag];exact aw _ k1
 |false=>
 obtain⟨RT,hcs⟩:=BV rfl;simp only[aG,aFf,aEM,aFa,eR];refine(Me (k1.fresh hf)).mono ?_;rintro _ s2 ⟨rfl,k2⟩;have g2:=(k2.keep st.nx).trans g1;have K2:=k1.trans k2;simp only[aG,aFh,aFf,aEM,aFa,bh,af,cU,aF];rw[aK (n:=4) g2 rfl,af];simp only[eR];refine(VV c).mono ?_;rintro _ s3 ⟨rfl,k3⟩;have m2:=k2.nx;have m3:=k3.nx;have g3:=(k3.keep st.nx).trans g2;have K3:=K2.trans k3;have c0:(lS c)[0]?=some (I c.sp):=rfl;have c1:(lS c)[1]?=some (.str c.key):=rfl;have c2:(lS c)[2]?=some (.str c.val):=rfl;have c3:(lS c)[3]?=some (.bool c.gone):=rfl;cases hm:GC c with
 |false=>
  simp only[bS,af,cU,aFf,aFh,aF,aEM,aFa,aFm,aG,gQ,ag];exact aw _ K3
 |true=>
 have ok:=of_decide_eq_true hm;cases hg:c.gone with
 |true=>
  simp only[bh,af,cU,aFh,aFf,aF,aEM,aFa,aG,gQ,ah,aB,g3,aq,aER,c3,hg,ay,ag,aFm];exact aw _ K3
 |false=>
 simp only[bh,af,cU,aFh,aFf,aF,aEM,aFa,aG,gQ,ah,aB,g3,aq,aER,c3,hg,ay,ag];have n3:=K3.nx;refine(show R 29 [.int .i64 4000] s3 _ from JC (n:=4000) qE qE).mono ?_;rintro _ s4 ⟨k4,a1,F1,rfl,d1,wS⟩;rw[aE,af,aN,aE,af];refine(show R 29 [.int .i64 4000] s4 _ from JC (n:=4000) qE qE).mono ?_;rintro _ s5 ⟨k5,a2,F2,rfl,d2,xq⟩;rw[aE,af,aN,aE,af];have n4:=k4.nx;have n5:=k5.nx;have l1:=d1.lt;have l2:=d2.lt;refine(A1 (n:=4000) qE qE (d1.keep k5 uG) (((K3.trans k4).trans k5).fresh hf) (λb hb=>by have:=l1 b hb;omega)).mono ?_;rintro _ s6 ⟨κ1,τ1,π1,rfl,_,k6,MV,kv1⟩;rw[aE,af,aN,aE,af];have n6:=k6.nx;have dF:∀b∈F2,b∉F1:=λb hb h=>by have:=xq b hb;have:=l1 b h;omega
 have K5:=(K3.trans k4).trans k5;have K6:=K5.trans k6 λq hq=>.inr (by have:=wS q hq;omega);refine(A1 (n:=4000) qE qE (d2.keep k6 dF) (K6.fresh hf) (λb hb=>by have:=l2 b hb;omega)).mono ?_;rintro _ s7 ⟨κ2,τ2,π2,rfl,_,k7,Qj,kv2⟩;rw[aE,af,aN,aE,af];have n7:=k7.nx;have K7:=K6.trans k7 λq hq=>.inr (by have:=xq q hq;omega)
 have w1:∀b∈κ1::own τ1 π1,s3.nx<=b/\b∉F2/\b<s6.nx:=λb hb=>by
  have:b<s6.nx:=by
   rcases aEP.1 hb with h|h
   .rw[h];exact kv1.2.2.1
   .exact kv1.1.two.qS b h
  rcases MV b hb with h|h
  .exact⟨wS b h,λh2=>dF b h2 h,this⟩
  .exact⟨qE,λh2=>by have:=l2 b h2;omega,this⟩
 have w2:∀b∈κ2::own τ2 π2,s4.nx<=b/\b∉κ1::own τ1 π1:=λb hb=>by
  rcases Qj b hb with h|h
  .exact⟨xq b h,λh2=>(w1 b h2).2.1 h⟩
  .exact⟨qE,λh2=>by have:=(w1 b h2).2.2;omega⟩
 have aen:=kv1.off k7 λb hb=>(w1 b hb).2.1;have e0:∀s,ai .neq (some .int) true (I 0) (.int .i64 0) s=.ok (.bool false) s:=λs=>rfl;have e00:∀s,ai .neq (some .int) true (I ((0:Nat):Int)) (.int .i64 0) s=.ok (.bool false) s:=λs=>rfl;have e1:∀s,ai .neq (some .int) true (I 1) (.int .i64 0) s=.ok (.bool true) s:=λs=>rfl;have e3:∀s,ai .neq (some .int) true (I 3) (.int .i64 0) s=.ok (.bool true) s:=λs=>rfl;have B7:=(k7.keep st.nx qE λh=>by have:=xq _ h;omega).trans ((k6.keep st.nx qE λh=>by have:=wS _ h;omega).trans ((k5.keep st.nx).trans ((k4.keep st.nx).trans g3)));simp only[e0,af,aG,aFf,aEM,aFa,bh,aF];rw[aK (n:=4) B7 rfl,af,oz (x:=.agg (lS c)) (k:=4) rfl rfl rfl,aS];generalize hs8:St.new s7 _=s8;obtain⟨k8,g8,n8⟩:=Qs hs8;simp only[eR];refine(LU ((K7.trans k8).fresh hf) (sl2 (cs:=[c]) g8 qE uG) uG).mono ?_;rintro jb s9 Xs;have lt1:∀b∈own τ1 π1,b<s8.nx:=λb hb=>by have:=(w1 b O2).2.2;omega
 have hx9:=Xs.sl (own τ1 π1) lt1;obtain⟨F9,k9,_,_⟩:=Xs;have kv9:=(aen.off k8 uG).off k9 uG;refine(Mf kv9 qE qE hx9 uG uG (λd hd=>?_) (λi hi d hd=>?_)).mono ?_
 .have:d=c:=by simpa using hd
  subst this;exact⟨ok,hg⟩
 .have:i=0:=by simp at hi;omega
  subst this;simp at hd
 rintro _ s10 ⟨rfl,π1',lM,_,⟨kf,Nn⟩,kvA,smA⟩;simp only[e0,af,aEM,aFa,ag];have n9:=k9.nx;have On:=kf.nx;have K9:=(K7.trans k8).trans k9;have KT:∀b∈own τ1 π1,st.nx+1<=b:=λb hb=>by have:=(w1 b O2).1;omega
 have start:Dn st.nx c st 1 10000 κ1 τ1 π1' κ2 τ2 π2 s10 (iA [] [c]) []:=by
  refine⟨⟨10000,lM,aEQ _,kvA⟩,⟨0,_,qE,((kv2.at'.still k8).still k9).off kf λb hb h=>(w2 b hb).2 Pb⟩,smA,λp hp=>by simp at hp,Dd [c] [],uG,λb hb h=>?_,λb hb=>?_,λb hb=>?_,?_,qE,K9.trans kf λq hq=>.inr (by have:=KT q hq;omega)⟩
  .have CX:b∈κ1::own τ1 π1\/s9.nx<=b:=by
    rcases aEP.1 hb with h|h
    .left;simp[h]
    .exact(Nn b h).imp (λh=>aFE _ h) id
   rcases CX with h3|h3
   .exact(w2 b h).2 h3
   .have:b<s7.nx:=by
     rcases aEP.1 h with h|h
     .rw[h];exact kv2.2.2.1
     .exact kv2.1.two.qS b h
    omega
  .rcases aEP.1 hb with h|h
   .have:=(w1 b Pb).1;exact⟨qE,qE⟩
   .rcases Nn b h with h|h
    .have:=KT b h;exact⟨qE,qE⟩
    .exact⟨qE,qE⟩
  .have:=(w2 b hb).1;exact⟨qE,qE⟩
  .exact(kf.keep st.nx qE λh=>by have:=KT _ h;omega).trans ((k9.keep st.nx).trans ((k8.keep st.nx).trans B7))
 rw[cV];simp only[aL,aM];refine bN (λfu vs s=>∃i π1 π2 L L',fu+i=S.length/\vs=[v0,I cut,.ptr st.nx 0,.ptr κ1 0,.ptr κ2 0,I i]/\Dn st.nx c st (1+12000*i) (10000+30000*i) κ1 τ1 π1 κ2 τ2 π2 s L L'/\Alike (oH c.nm) c.val L L') ?_ (n:=S.length) ⟨0,_,_,_,_,rfl,rfl,start,abn hg⟩;clear start kvA smA kv9 hx9 kv1 aen kv2 w1 w2 MV Qj d1 d2 dF KT Nn lt1;rintro fu vs s K ⟨i,π1,π2,L,L',hi,rfl,h,hal⟩ next;simp only[aL,aM];rw[(hA.keep h.kp).len,af,dC,af,ag]
 by_cases hc:i<S.length
 .rw[aEV hc,aEW rfl];have hn4:=hcs _ (aFj hc);refine ahJ (hA.keep h.kp) hc hn4 h.box h.lt _ ?_;intro x F s1 own k hF;simp only[aL,aM]
  have qy:∀d∈S[i].filter c.other,oH d.nm≠oH c.nm\/¬d.ok:=λd hd=>by
   by_cases hdk:d.ok
   .left;intro e;have h2:=(aGm.1 hd).2;have h3:d.nm≠c.nm:=by simpa[ChM.other]using h2
    exact h3 (UO hdk.1 ok.1 e)
   .exact .inr hdk
  have hlen:(S[i].filter c.other).length<=4000:=aGb (aHf _ _) hn4;generalize S[i].filter c.other=fs at*;have h1:=h.still k;have hx:Sl s1 [] x 4 (hU fs):=own.sl λq hq=>⟨uG,(hF q hq).2⟩;refine h1.batch hx hlen qE ?_;intro e s2 π1' he mU kk h2;have Qj:=own.keep kk λq hq=>⟨(hF q hq).2,λhh=>by have:=h.MV q hh;have:=(hF q hq).1;omega⟩;have n2:=kk.nx;have Tr:Sl s2 [] x 4 (hU fs):=Qj.sl λq hq=>⟨uG,O9⟩;obtain⟨n,hn,anK⟩:=alO cut fs.length qE (Tr.len fs.length (jj _) qE s2);refine anK _ ?_
  by_cases hz:e=0
  .subst hz;rw[e00,af,ag,aET u7];rw[aEW rfl]at h2;obtain⟨Wq,q1,afh⟩:=Tr.hi qE (jj fs) hn s2;rw[q1,af];rw[NR fs n hn]at afh;refine h2.swap.batch afh O0 qE ?_;intro e' s3 π2' Ru ZQ kk' h3
   by_cases hz':e'=0
   .subst hz';rw[aEW rfl]at h3;have ama:=Qj.keep kk' λq hq=>⟨O9,λhh=>by have:=h.swap.MV q hh;have:=(hF q hq).1;omega⟩;have n3:=kk'.nx;have hx3:Sl s3 [] x 4 (hU fs):=ama.sl λq hq=>⟨uG,O9⟩;obtain⟨IP,q2,Xf⟩:=hx3.lo qE (jj fs) hn s3;rw[NT fs n hn]at Xf;simp only[e00,af,aG,aFf,aEM,aFa,bh,q2,eR];refine h3.batch Xf Pc qE ?_;intro e'' s4 avJ apD atW ayq h4
    by_cases ane:e''=0
    .subst ane;rw[aEW rfl,<-NN,aFD]at h4;have agM:=hal.all fs λd hd=>(qy d hd).resolve_right λhb=>hb (mU rfl d hd);obtain⟨T4,f4,a4,b4⟩:=h4.swap.k1;have B4:=h4.box;simp only[e00,af,aF,aEM,aFa,ag,fl,ah,aB,B4,aq,aER,c0,c1,ay];refine(RX b4 (p:=c.nm) ok.1).mono ?_;rintro _ s5 ⟨k5,rfl⟩;have h5:=h4.still k5;have B5:=h5.box;have arP:ai .neq (some .str) false (.str c.val) (.str c.val) s5=.ok (.bool false) s5:=by rw[eA,nX,aEV rfl];rfl
     rw[agM.1];simp only[aE,aN,af,e0,aG,aFf,aFh,aEM,aFa,bh,aHr,aGi,cU,aF,aB,B5,aq,c2,ay,arP,ag];rw[gH i qE,af];exact next (fu-1) _ _ qE ⟨i+1,_,_,_,_,qE,rfl,h5.swap.more qE qE,agM⟩
    .have en:ai .neq (some .int) true (I e'') (.int .i64 0) s4=.ok (.bool true) s4:=by rcases apD with rfl|rfl|rfl;omega;rfl;rfl
     simp only[en,af,aF,aEM,aFa,ag,aFm];exact hQ _ h4.kp
   .have en:ai .neq (some .int) true (I e') (.int .i64 0) s3=.ok (.bool true) s3:=by rcases Ru with rfl|rfl|rfl;omega;rfl;rfl
    simp only[en,af,aG,aFh,aEM,aFa,bS,pz,aF,aFm,ag];exact hQ _ h3.kp
  .rw[aET hz]at h2;have n1:∀s,ai .neq (some .int) true (I 1) (.int .i64 1) s=.ok (.bool false) s:=λs=>rfl;have n2':∀s,ai .neq (some .int) true (I 3) (.int .i64 1) s=.ok (.bool true) s:=λs=>rfl;have n3':∀s,ai .neq (some .int) true (I 3) (.int .i64 3) s=.ok (.bool false) s:=λs=>rfl;have go:=next (fu-1) [v0,I cut,.ptr st.nx 0,.ptr κ1 0,.ptr κ2 0,I ((i+1:Nat):Int)] s2 qE ⟨i+1,_,_,_,_,qE,rfl,h2.more qE qE,hal⟩;rcases he with rfl|rfl|rfl
   .omega
   .rw[show(I ((1:Nat):Int))=I 1 from rfl];simp only[e1,af,ag,aFm,n1,aG,aEM,aFa,bS,aF];rw[gH i qE,af];exact go
   .rw[show(I ((3:Nat):Int))=I 3 from rfl];simp only[e3,af,ag,aFm,n2',aG,bh,n3',aF,aEM,aFa];rw[gH i qE,af];exact go
 .rw[aEO hc,aET u7,aK (n:=4) h.box rfl,af,oz (x:=.agg (lS c)) (k:=4) rfl rfl rfl,aS];generalize JN:St.new s _=s1;obtain⟨k1,g1,n1⟩:=Qs JN;have h1:=h.still k1;refine h1.swap.batch (sl2 (cs:=[c]) g1 qE uG) uG qE ?_;intro e s2 π2' he mU kk h2
  by_cases hz:e=0
  .subst hz;rw[aEW rfl]at h2;obtain⟨_,_,_,b1⟩:=h2.k1;obtain⟨_,_,_,b2⟩:=h2.k2
   have eL:=I5 (KF b1.tr) (KF b2.tr) λk=>by
    show fE (ET L' c) k=_;rw[ri]
    split
    .rename_i hk;rw[hg,hk,hal.1];rfl
    .rename_i hk;exact(hal.2 k hk).symm
   rw[eL]at h2;rw[e00,af,ag,aET u7];exact FW h2.swap qE Q hQ
  .have en:ai .neq (some .int) true (I e) (.int .i64 0) s2=.ok (.bool true) s2:=by rcases he with rfl|rfl|rfl;omega;rfl;rfl
   rw[en,af,ag,aEW rfl];exact hQ _ h2.kp
end
end
