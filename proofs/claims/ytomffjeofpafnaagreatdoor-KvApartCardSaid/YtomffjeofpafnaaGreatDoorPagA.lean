import Derived.Test.YtomffjeofpafnaaGreatDoorRingB
namespace Lim
open Go
noncomputable section
set_option linter.defProp false
set_option maxRecDepth 100000
section
variable {st st':St}
def oC (l:List UInt8):Nat:=l.foldl (λa b=>a*256+b.toNat) 0
def tq (l:List UInt8)(b:UInt8):oC (l++[b])=oC l*256+b.toNat:=by simp[oC]
def be (k n:Nat):List UInt8:=(le k n).reverse
def il (k n:Nat):(be k n).length=k:=by simp[be,iz]
def zt (k n:Nat):be (k+1) n=UInt8.ofNat (n/256^k%256)::be k n:=by simp[be,le]
def R6 (k:Nat):∀n acc:Nat,(be k n).foldl (λa b=>a*256+b.toNat) acc=acc*256^k+n%256^k:=by
 induction k with
 |zero=>intro n acc;simp[be,le,Nat.mod_one]
 |succ k ih=>
  intro n acc;rw[zt,List.foldl_cons,ih];have h1:(UInt8.ofNat (n/256^k%256)).toNat=n/256^k%256:=uG
  have h2:n%256^(k+1)=n%256^k+256^k*(n/256^k%256):=by rw[aHw,Nat.mod_mul]
  rw[h1,h2,aHw,aFW,Nat.mul_assoc,aGN 256 (256^k),aGN (n/256^k%256)];omega
def vL (k n:Nat)(h:n<256^k):oC (be k n)=n:=by
 unfold oC;rw[R6,Nat.zero_mul,aER,aGz h]
def CA (a m k:Nat)(h:a<2^k)(hs:a+m*2^k<9223372036854775808)(d:Option kj)(c:Bool)(st:St):ai .or d c (I ((m*2^k:Nat):Int)) (I a) st=.ok (I ((m*2^k+a:Nat):Int)) st:=by
 have e:ai .or d c (I ((m*2^k:Nat):Int)) (I a) st=(match j8 .or .i64 ((m*2^k:Nat):Int) (a:Int)with|some r=>.ok (.int .i64 r) st|none=>.bad):=rfl
 have e2:j8 .or .i64 ((m*2^k:Nat):Int) (a:Int)=j8 .or .i64 (a:Int) ((m*2^k:Nat):Int):=by
  show some (IntKind.i64.wrap ((BitVec.ofInt 64 _|||BitVec.ofInt 64 _).toNat:Int))=some (IntKind.i64.wrap ((BitVec.ofInt 64 _|||BitVec.ofInt 64 _).toNat:Int));rw[BitVec.or_comm]
 rw[e,e2,Wz a m k h hs,aHE]
def tJ {X:List Nat}{v:CV}{l:List UInt8}(h:Sl st X v 1 (aj l))(hl:l.length<=1000)(hb:∀i,oC (l.take i)<=4611686018427387904):R 71 [v] st λx st'=>x=I (oC l)/\st'=st:=by
 refine bP ?_;rw[w71];have hlen:=h.len l.length uG qE st;show us _ _;rw[hlen,af];show cZ _ _ _;simp only[aL,aM];refine bN (λfu vs s=>∃i,fu+i=l.length/\vs=[I (oC (l.take i)),v,I l.length,I i]/\s=st) ?_ (n:=l.length) ⟨0,rfl,rfl,rfl⟩;rintro fu vs s k ⟨i,hi,rfl,rfl⟩ next;simp only[aL,aM]
 by_cases hc:i<l.length
 .have a1:ai .lss none false (I i) (I l.length) s=.ok (.bool true) s:=by rw[az,c8,aEV qE]
  have Ix:=hb i;have CX:=hb (i+1);have BO:l.take (i+1)=l.take i++[l[i]]:=by rw[aFe hc]
  rw[BO,tq]at CX;have hlt:(l[i]).toNat<256:=(l[i]).toNat_lt
  have a2:ai .shl none true (I (oC (l.take i))) (.int .u64 8) s=.ok (I ((oC (l.take i)*2^8:Nat):Int)) s:=by
   have e:ai .shl none true (I (oC (l.take i))) (.int .u64 8) s=.ok (I (IntKind.i64.wrap ((oC (l.take i):Int)*2^8))) s:=rfl;rw[e,bz qE];simp
  have a3:cW (.toInt .i64) (bQ l[i]) s=.ok (I (l[i]).toNat) s:=FD _ qE _ _;have a4:ai .or none false (I ((oC (l.take i)*2^8:Nat):Int)) (I (l[i]).toNat) s=.ok (I ((oC (l.take i)*2^8+(l[i]).toNat:Nat):Int)) s:=CA _ _ _ qE qE _ _ _;have a5:ai .add none true (I i) (.int .i64 1) s=.ok (I ((i+1:Nat):Int)) s:=xt
  simp only[a1,af,ag,aFm,a2];refine h.idx Dx _ ?_;have hg:(aj l)[i]'(by simpa using hc)=bQ l[i]:=abK
  rw[hg,a3,af,a4,af,a5,af];exact next (fu-1) _ _ qE ⟨i+1,qE,by rw[BO,tq],rfl⟩
 .have a1:ai .lss none false (I i) (I l.length) s=.ok (.bool false) s:=by rw[az,c8,aEO qE]
  simp only[a1,af,ag,aEM,aFa];rw[aEX qE];exact⟨rfl,aer⟩
def CB (L T:List CV)(p:Nat)(x:CV)(h:p+1+T.length<=L.length):bD (bD L (p+1) T) p [x]=bD L p (x::T):=by
 unfold bD
 have e1:(L.take (p+1)++(T++L.drop (p+1+T.length))).take p=L.take p:=by
  rw[List.take_append_of_le_length O0,aGf,aFG qE]
 have e2:(L.take (p+1)++(T++L.drop (p+1+T.length))).drop (p+1)=T++L.drop (p+1+T.length):=by
  rw[List.drop_append,aFu O0,aFc,aFG qE,Nat.sub_self,aFr,aFt]
 simp only[aFp,aGu,aER];rw[e1,e2];have e3:p+(T.length+1)=p+1+T.length:=qE
 rw[e3];rfl
def Ak (L:List CV)(p:Nat):bD L p []=L:=by unfold bD;simp
def Jl {b off len cap n:Nat}{L:List CV}{t:TypeId}{g:Bool}(hb:st.m.g b=some (.cells L t g))(Hm:b<st.nx)(hL:off+len<=L.length)(hlen:len<=8)(hn:n<9223372036854775808):
 R 135 [.slice b off len cap 0,I n] st λx st'=>Kp [b] st st'/\st'.nx=st.nx/\st'.m.g b=some (.cells (bD L off (aj (be len n))) t g):=by
 refine bP ?_;rw[akM];simp only[cV,nY,af,aL,aM]
 refine bN (λfu vs s=>∃i,fu+i=len/\vs=[.slice b off len cap 0,I n,I len,I i]/\Kp [b] st s/\s.nx=st.nx/\s.m.g b=some (.cells (bD L (off+len-i) (aj (be i n))) t g)) ?_ (n:=len) ⟨0,rfl,rfl,Kp.refl _ _,rfl,by
  have:aj (be 0 n)=[]:=rfl;rw[this,Ak];exact hb⟩
 rintro fu vs s k ⟨i,hi,rfl,hk,JM,hg⟩ next;simp only[aL,aM]
 by_cases hc:i<len
 .have a1:ai .lss none false (I i) (I len) s=.ok (.bool true) s:=by rw[az,c8,aEV qE]
  have a2:ai .sub none true (I len) (.int .i64 1) s=.ok (I ((len-1:Nat):Int)) s:=Bw
  have a3:ai .sub none false (I ((len-1:Nat):Int)) (I i) s=.ok (I ((len-1-i:Nat):Int)) s:=Bw
  have a4:ai .mul none true (.int .i64 8) (I i) s=.ok (I ((8*i:Nat):Int)) s:=O3
  have a5:cc 1 (.slice b off len cap 0) (I ((len-1-i:Nat):Int)) s=.ok (.ptr b (off+(len-1-i)*1)) s:=fO qE (.inl rfl) s;have a6:∀s,ai .add none true (I i) (.int .i64 1) s=.ok (I ((i+1:Nat):Int)) s:=λs=>xt
  simp only[a1,af,ag,aFm,nY,a2,a3,a4,DK _ _ (show i<8 from qE),Mw,Ew,a5,aJ,hg,aW,a6];have e1:off+(len-1-i)*1=off+len-(i+1):=qE
  have e2:off+len-i=off+len-(i+1)+1:=qE
  have uy:=il i n
  have e3:bD (bD L (off+len-i) (aj (be i n))) (off+len-(i+1)) [bQ (UInt8.ofNat (n/256^i%256))]=bD L (off+len-(i+1)) (aj (be (i+1) n)):=by
   rw[e2,CB _ _ _ _ adh,zt];rfl
  have U8:(bQ (UInt8.ofNat (n/256^i%256))).cN=[bQ (UInt8.ofNat (n/256^i%256))]:=rfl;rw[e1,U8,e3];refine⟨⟨rfl,rfl,acC⟩,next (fu-1) _ _ qE ⟨i+1,qE,rfl,hk.set _ (.inl uG) qE,JM,ar _ _ _⟩⟩
 .have a1:ai .lss none false (I i) (I len) s=.ok (.bool false) s:=by rw[az,c8,aEO qE]
  simp only[a1,af,ag,aEM,aFa];have Ff:i=len:=qE
  subst Ff;rw[aFY]at hg;exact⟨hk,JM,hg⟩
end
structure j9 where
 root:Nat
 used:Nat
 head:Nat
 free:Nat
structure bZ where
 first:Nat
 aH:Nat
 dirty:List (Nat×jU)
 now:List (Nat×jU)
 kept:j9
 m:j9
 idle:List Nat
 count:List Nat
def gP (l:List (Nat×jU)):MZ:=l.map λp:Nat×jU=>(Int.ofNat p.1,CV.agg (aj p.2))
def uk (l:List Nat):MZ:=l.map λn:Nat=>(Int.ofNat n,CV.bool true)
def dt (l:List (Nat×jU))(n:Nat):Option jU:=match l with|[]=>none|p::r=>if n=p.1 then some p.2 else dt r n
def ig (l:List (Nat×jU))(n:Nat)(s:jU):List (Nat×jU):=match l with|[]=>[(n,s)]|p::r=>if n=p.1 then (n,s)::r else p::ig r n s
def nj (l:List Nat)(n:Nat):List Nat:=match l with|[]=>[n]|p::r=>if n=p then p::r else p::nj r n
def zL (l:List Nat)(n:Nat):List Nat:=match l with|[]=>[]|p::r=>if n=p then r else p::zL r n
def wc (l:List (Nat×jU))(n:Nat):jy (gP l) n=(dt l n).map λs=>.agg (aj s):=by
 induction l with
 |nil=>rfl
 |cons p r ih=>
  show(if (n:Int)=(p.1:Int)then some (CV.agg (aj p.2))else jy (gP r) n)=_;simp only[dt]
  by_cases h:n=p.1
  .rw[aEW h,aEW qE];rfl
  .rw[aET h,aET qE];exact ih
def wb (l:List (Nat×jU))(n:Nat)(s:jU):mT (gP l) n (.agg (aj s))=gP (ig l n s):=by
 induction l with
 |nil=>rfl
 |cons p r ih=>
  show(if (n:Int)=(p.1:Int)then ((n:Int),CV.agg (aj s))::gP r else ((p.1:Int),CV.agg (aj p.2))::mT (gP r) n (.agg (aj s)))=_;simp only[ig]
  by_cases h:n=p.1
  .rw[aEW h,aEW qE];rfl
  .rw[aET h,aET qE,ih];rfl
def FP (l:List Nat)(n:Nat):jy (uk l) n=if n∈l then some (.bool true)else none:=by
 induction l with
 |nil=>rfl
 |cons p r ih=>
  show(if (n:Int)=(p:Int)then some (CV.bool true)else jy (uk r) n)=_
  by_cases h:n=p
  .rw[aEW qE,aEW Pb]
  .rw[aET qE,ih];simp[h]
def zK (l:List Nat)(n:Nat):mT (uk l) n (.bool true)=uk (nj l n):=by
 induction l with
 |nil=>rfl
 |cons p r ih=>
  show(if (n:Int)=(p:Int)then ((n:Int),CV.bool true)::uk r else ((p:Int),CV.bool true)::mT (uk r) n (.bool true))=_;simp only[nj]
  by_cases h:n=p
  .rw[aEW h,aEW qE,h];rfl
  .rw[aET h,aET qE,ih];rfl
def PE (l:List Nat)(n:Nat):qY (uk l) n=uk (zL l n):=by
 induction l with
 |nil=>rfl
 |cons p r ih=>
  show(if (n:Int)=(p:Int)then uk r else ((p:Int),CV.bool true)::qY (uk r) n)=_;simp only[zL]
  by_cases h:n=p
  .rw[aEW h,aEW qE]
  .rw[aET h,aET qE,ih];rfl
structure cP (st:St)(p a:Nat)(lg:CV)(M:bZ)(bd bn bi bc:Nat):Prop where
 main:st.m.g p=some (.cells [.ptr a 0,lg,I M.first,I M.aH,.map bd,.map bn,I M.kept.root,I M.kept.used,I M.kept.head,I M.kept.free,I M.m.root,I M.m.used,I M.m.head,I M.m.free,.map bi,.map bc] 158 false)
 dirty:IsMap st bd (gP M.dirty)
 now:dy st bn (gP M.now)
 idle:dy st bi (uk M.idle)
 count:dy st bc (uk M.count)
 nd:[p,bd,bn,bi,bc].Nodup
 lt:∀b∈[p,bd,bn,bi,bc],b<st.nx
 lgs:lg.cN=[lg]/\cE lg=true/\lg.isAny=false
section
variable {st st':St} {p a:Nat} {lg:CV} {M:bZ} {bd bn bi bc:Nat}
def cP.keep {X:List Nat}(h:cP st p a lg M bd bn bi bc)(hk:Kp X st st')(hx:∀b∈[p,bd,bn,bi,bc],b∉X):cP st' p a lg M bd bn bi bc:=by
 have k:=λb hb=>hk.keep b (h.lt b hb) (hx b hb);exact⟨(k p uG).trans h.main,h.dirty.mono (k bd uG),h.now.mono (k bn uG),h.idle.mono (k bi uG),h.count.mono (k bc uG),h.nd,λb hb=>aFg (h.lt b hb) hk.nx,h.lgs⟩
def bZ.cF (M:bZ):Int:=(M.aH:Int)-M.m.used+M.m.free
def bZ.bW (M:bZ)(n:Nat):Prop:=0<n/\n<M.m.used/\n∉M.idle
instance (M:bZ) (n:Nat):Decidable (M.bW n):=by unfold bZ.bW;infer_instance
def Ac (h:cP st p a lg M bd bn bi bc)(h1:M.aH<=1000000)(h2:M.m.used<=1000000)(h3:M.m.free<=1000000):R 62 [.ptr p 0] st λv st'=>v=I M.cF/\st'=st:=by
 refine bP ?_;rw[w62];have e1:IntKind.i64.wrap ((M.aH:Int)-M.m.used)=(M.aH:Int)-M.m.used:=bz qE;have e2:IntKind.i64.wrap ((M.aH:Int)-M.m.used+M.m.free)=M.cF:=bz qE;simp[h.main,e1,e2]
def Up (h:cP st p a lg M bd bn bi bc):R 54 [.ptr p 0] st λv st'=>v=I M.m.root/\st'=st:=by
 refine bP ?_;rw[w54];simp[sY,h.main]
def vU (h:cP st p a lg M bd bn bi bc)(n:Nat):R 101 [.ptr p 0,I n] st λv st'=>v=.bool (decide (M.bW n))/\st'=st:=by
 refine bP ?_;rw[alp];have AL:=IsMap.lookup (.inl h.idle) (.bool false) false n st rfl;rw[aET u7,FP]at AL;unfold bZ.bW
 by_cases h1:0<n
 .by_cases h2:n<M.m.used
  .by_cases h3:n∈M.idle
   .rw[aEW h3]at AL;simp[h1,h2,h3,gQ,j7,h.main,AL]
   .rw[aET h3]at AL;simp[h1,h2,h3,gQ,j7,h.main,AL]
  .simp[h1,h2,gQ,j7,h.main]
 .have:n=0:=by omega
  subst this;simp[gQ,j7]
def I7 (h:cP st p a lg M bd bn bi bc)(n:Nat)(hn:n=0\/M.bW n):R 49 [.ptr p 0,I n] st λv st'=>v=I 0/\Kp [p] st st'/\st'.nx=st.nx/\cP st' p a lg {M with m:={M.m with root:=n}} bd bn bi bc:=by
 refine bP ?_;rw[w49];have nd:=h.nd;simp only[aFd,aEP,aFy,aGt,aGk]at nd
 have fin:Bx 1 10 0 (.ptr p 0) (I n) st λs2=>(I 0=I 0/\Kp [p] st s2/\s2.nx=st.nx/\cP s2 p a lg {M with m:={M.m with root:=n}} bd bn bi bc):=by
  have kP:∀r,bD [CV.ptr a 0,lg,I M.first,I M.aH,.map bd,.map bn,I M.kept.root,I M.kept.used,I M.kept.head,I M.kept.free,I r,I M.m.used,I M.m.head,I M.m.free,.map bi,.map bc] 10 [I n]=[CV.ptr a 0,lg,I M.first,I M.aH,.map bd,.map bn,I M.kept.root,I M.kept.used,I M.kept.head,I M.kept.free,I n,I M.m.used,I M.m.head,I M.m.free,.map bi,.map bc]:=λ_=>rfl;simp only[Bx,bF,ah,af,aJ,h.main,aW,jc,aER,aFC,kP];have hlt:=h.lt p uG;have hk:Kp [p] st (St.set st p (.cells [CV.ptr a 0,lg,I M.first,I M.aH,.map bd,.map bn,I M.kept.root,I M.kept.used,I M.kept.head,I M.kept.free,I n,I M.m.used,I M.m.head,I M.m.free,.map bi,.map bc] 158 false)):=(Kp.refl _ st).set _ (.inl uG) hlt;refine⟨⟨rfl,rfl,uG⟩,aer,hk,rfl,ar _ _ _,h.dirty.mono (al _ _ _ _ (aFL nd.1.1)),h.now.mono (al _ _ _ _ (aFL nd.1.2.1)),h.idle.mono (al _ _ _ _ (aFL nd.1.2.2.1)),h.count.mono (al _ _ _ _ (aFL nd.1.2.2.2)),h.nd,h.lt,h.lgs⟩
 by_cases h0:n=0
 .subst h0;simp
  simpa using fin
 .have hu:=hn.resolve_left h0;have e0:¬(n:Int)=0:=by omega
  simp[h0];refine(vU h n).same ?_;simp[hu]
  simpa using fin
end
section
variable {st st':St} {p a:Nat} {lg:CV} {M:bZ} {bd bn bi bc:Nat} {F:List Nat} {D:bf}
def bZ.get (M:bZ)(D:bf)(n:Nat):jU:=match dt M.now n with|some s=>s|none=>match dt M.dirty n with|some s=>s|none=>D.cur (M.first+n)
def KU (s:jU)(h:s.length=512):bD (zr 512) 0 (aj s)=aj s:=ep _ _ (by rw[bJ,h];exact List.length_replicate.symm)
def qC:(zr 512).length=512:=aFI
def OH:bj (zr 512)=true:=by rw[nO];exact bI _
def lD {s:St}{T:List CV}{K:CV->St->Prop}(hl:T.length=512)(ho:bj T=true)(hK:K (.ptr s.nx 0) (St.set (St.new s (.cells (zr 512) 173 false)) s.nx (.cells T 173 false))):
 upon (du 173 (zr 512) s) λx s2=>upon (aR 512 x (.agg T) s2) λ_ s3=>K x s3:=by
 rw[cH,aS,aJ,ao];have:bD (zr 512) 0 T=T:=ep _ _ (by rw[hl];exact qC.symm);rw[aW,aT,this];exact⟨⟨hl,ho,by rw[qC];exact aEQ _⟩,hK⟩
def Kp.page {X:List Nat}{s s2:St}(h:Kp X s s2)(T:List CV):Kp X s (St.set (St.new s2 (.cells (zr 512) 173 false)) s2.nx (.cells T 173 false)):=(h.new _).set _ (.inr h.nx) uG
def zi (h:cP st p a lg M bd bn bi bc)(hd:dz st a F D)(rY:D.dead=false){n:Nat}(hn:M.first+n<D.aA.length)(hs:(M.get D n).length=512):
 R 123 [.ptr p 0,I n] st λv st'=>v=.tuple [.agg (aj (M.get D n)),I 0]/\Kp [] st st':=by
 refine bP ?_;rw[akW];have hsz:=(show D.aA.length<=65536 from by obtain⟨_,_,_,_,_,_,_,h⟩:=hd;exact h.size);have k1:Kp [] st (St.new st (.cells (zr 512) 173 false)):=(Kp.refl [] st).new _;have g1:(St.new st (.cells (zr 512) 173 false)).m.g st.nx=some (.cells (zr 512) 173 false):=ao _ _;have n1:(St.new st (.cells (zr 512) 173 false)).nx=st.nx+1:=rfl;rw[cH,aS];generalize St.new st (.cells (zr 512) 173 false)=s1 at*;have h1:=h.keep k1 uG;have uT:=IsMap.lookup (.inl h1.now) (.agg (zr 512)) true n s1 rfl;rw[aEW rfl,wc]at uT;simp only[fB,bF,ah,af,aB,h1.main,aq,aER,aEN,aEL,ay,uT,aE,aN]
 have fin:∀(s:St) (T:jU),T.length=512->T=M.get D n->Kp [] st s->s.m.g st.nx=some (.cells (zr 512) 173 false)->st.nx<s.nx->
  upon (aR 512 (.ptr st.nx 0) (.agg (aj T)) s) λ_ s4=>us (aI 512 (.ptr st.nx 0) s4) λx8=>(CV.tuple [x8,I 0]=.tuple [.agg (aj (M.get D n)),I 0]/\Kp [] st s4):=by
  intro s T hT he hk hg hlt;rw[aJ,hg,aW,aT,KU T hT];have Bs:(aj T).length=512:=acx
  refine⟨⟨Bs,bI _,by rw[qC];exact aEQ _⟩,?_⟩;rw[aK (n:=512) (ar s st.nx (.cells (aj T) 173 false)) Bs,af];exact⟨by rw[he],hk.set _ (.inr (aEQ _)) hlt⟩
 cases hp:dt M.now n with
 |some T=>
  have he:T=M.get D n:=by unfold bZ.get;rw[hp]
  have hT:T.length=512:=by rw[he];exact hs
  have Bs:(aj T).length=512:=acx
  simp only[aGc,aGi,aHr];refine lD Bs (bI _) ?_;rw[ag,aEW rfl,aK (n:=512) (ar (St.new s1 (.cells (zr 512) 173 false)) s1.nx (.cells (aj T) 173 false)) Bs,af];exact fin _ T hT he (k1.page _) abe vR
 |none=>
  simp only[Option.map_none,Option.getD_none,Option.isSome_none];refine lD qC OH ?_;have k3:=k1.page (zr 512);have g3:(St.set (St.new s1 (.cells (zr 512) 173 false)) s1.nx (.cells (zr 512) 173 false)).m.g st.nx=some (.cells (zr 512) 173 false):=abe
  have n3:(St.set (St.new s1 (.cells (zr 512) 173 false)) s1.nx (.cells (zr 512) 173 false)).nx=s1.nx+1:=rfl;generalize St.set (St.new s1 (.cells (zr 512) 173 false)) s1.nx (.cells (zr 512) 173 false)=s3 at*;have h3:=h.keep k3 uG;have Np:=IsMap.lookup h3.dirty (.agg (zr 512)) true n s3 rfl;rw[aEW rfl,wc]at Np;simp only[ag,aEM,aFa,af,h3.main,aq,aEN,aEL,ay,Np,aE,aN];cases hq:dt M.dirty n with
  |some T=>
   have he:T=M.get D n:=by unfold bZ.get;rw[hp,hq]
   have hT:T.length=512:=by rw[he];exact hs
   have Bs:(aj T).length=512:=acx
   simp only[aGc,aGi,aHr];refine lD Bs (bI _) ?_;rw[aEW trivial,aK (n:=512) (ar (St.new s3 (.cells (zr 512) 173 false)) s3.nx (.cells (aj T) 173 false)) Bs,af];exact fin _ T hT he (k3.page _) abi vR
  |none=>
   have he:D.cur (M.first+n)=M.get D n:=by unfold bZ.get;rw[hp,hq]
   simp only[Option.map_none,Option.getD_none,Option.isSome_none];refine lD qC OH ?_;have k5:=k3.page (zr 512);have g5:(St.set (St.new s3 (.cells (zr 512) 173 false)) s3.nx (.cells (zr 512) 173 false)).m.g st.nx=some (.cells (zr 512) 173 false):=abi
   have n5:(St.set (St.new s3 (.cells (zr 512) 173 false)) s3.nx (.cells (zr 512) 173 false)).nx=s3.nx+1:=rfl;generalize St.set (St.new s3 (.cells (zr 512) 173 false)) s3.nx (.cells (zr 512) 173 false)=s5 at*;have h5:=h.keep k5 uG;have d5:=hd.keep k5 uG;have a1:ai .add none false (I M.first) (I n) s5=.ok (I ((M.first+n:Nat):Int)) s5:=xt
   simp only[aEM,aFa,bG,af,h5.main,aq,aEN,aEL,ay,a1];refine(zg d5 ((M.first+n:Nat):Int)).mono ?_;intro x s8 hx
   have er:D.read ((M.first+n:Nat):Int)=(0,D.cur (M.first+n)):=by
    unfold bf.read;rw[aET (by simp[rY]),aET qE,aHy]
   rw[er,aEW rfl]at hx;obtain⟨k8,hl,b,rfl,g8,b1,b2⟩:=hx;have n8:=k8.nx;have Ip:oZ 512 (.slice b 0 512 512 1) s8=.ok (.ptr b 0) s8:=rfl;have Ox:(aj (D.cur (M.first+n))).length=512:=adf
   simp only[aE,aN,af,az,fh,aFZ,aFh,ag,aEM,aFa,Ip,aK g8 Ox];refine⟨⟨aer,aer,aer⟩,aer,?_⟩;exact fin s8 _ hl he (k5.trans k8 uG) ((k8.keep _ qE uG).trans g5) qE
end
section
variable {st st':St} {p a:Nat} {lg:CV} {M:bZ} {bd bn bi bc:Nat} {F:List Nat} {D:bf}
def P4 (h:cP st p a lg M bd bn bi bc)(hd:dz st a F D)(rY:D.dead=false){n:Nat}(hu:M.bW n)(hn:M.first+n<D.aA.length)(hs:(M.get D n).length=512):
 R 137 [.ptr p 0,I n] st λv st'=>Got (M.get D n) st v st':=by
 refine bP ?_;rw[akK];simp only[cD,af,ag,aEM,aFa];refine(vU h n).same ?_;simp only[hu,aFZ,cU,af,aFh,ag,aEM,aFa];refine(zi h hd rY hn hs).mono ?_;rintro _ s2 ⟨rfl,k2⟩;have Bs:(aj (M.get D n)).length=512:=aaX
 simp only[aE,aN,af];refine lD Bs (bI _) ?_;have k4:=k2.page (aj (M.get D n));have g4:(St.set (St.new s2 (.cells (zr 512) 173 false)) s2.nx (.cells (aj (M.get D n)) 173 false)).m.g s2.nx=some (.cells (aj (M.get D n)) 173 false):=ar _ _ _;have n4:(St.set (St.new s2 (.cells (zr 512) 173 false)) s2.nx (.cells (aj (M.get D n)) 173 false)).nx=s2.nx+1:=rfl;generalize St.set (St.new s2 (.cells (zr 512) 173 false)) s2.nx (.cells (aj (M.get D n)) 173 false)=s4 at*;have Bq:bY 512 1 (.ptr s2.nx 0) none none s4=.ok (.slice s2.nx 0 512 512 0) s4:=rfl;simp only[az,fh,aFZ,aFh,af,ag,aEM,aFa,Bq];have lq:Sl s4 [] (.slice s2.nx 0 512 512 0) 1 (aj (M.get D n)):=.inr ⟨s2.nx,0,512,512,0,rfl,qE,⟨aEQ _,.inl rfl⟩,.inr ⟨uG,qE,_,_,_,g4,qE,O4⟩⟩;refine(wZ lq qE).mono ?_;rintro x s5 ⟨F',q1,q2,q3,q4⟩;obtain⟨b,n',r1,r2,r3,r4,r5⟩:=q2.row qE;have:n'=512:=qE
 subst this;have hb:=q3 b (by simp[r1]);exact⟨k4.trans q1 uG,hs,b,by rw[r3],r5,by have:=k4.nx;omega,hb.2⟩
def zm {s:St}{T:jU}{n:Nat}(h:cP s p a lg M bd bn bi bc):
 ∃v1 e1 mW v2 e2 ml s5,fN .int (.agg (zr 512)) (.map bn) (I n) s=.ok (.tuple [v1,I e1]) (St.set s bn mW)/\
  (∃qu,dX (.map bn) (I e1) (.agg (aj T)) (St.set s bn mW)=.ok .undef (St.set s bn qu)/\
  fN .int (.bool false) (.map bc) (I n) (St.set s bn qu)=.ok (.tuple [v2,I e2]) (St.set (St.set s bn qu) bc ml)/\
  dX (.map bc) (I e2) (.bool true) (St.set (St.set s bn qu) bc ml)=.ok .undef s5)/\Kp [bn,bc] s s5/\s5.nx=s.nx/\cP s5 p a lg {M with now:=ig M.now n T,count:=nj M.count n} bd bn bi bc:=by
 have nd:=h.nd;simp only[aFd,aEP,aFy,aGt,aGk]at nd;obtain⟨⟨n1,n2,n3,n4⟩,⟨n5,n6,n7⟩,⟨n8,n9⟩,On,_⟩:=nd;obtain⟨v1,e1,mW,a1,a2⟩:=h.now.entry (.agg (zr 512)) n;obtain⟨qu,a3,a4⟩:=a2 (.agg (aj T)) _ (ar s bn mW);rw[set_set]at a3 a4;have hc:dy (St.set s bn qu) bc (uk M.count):=h.count.mono (al _ _ _ _ (aFL n9));obtain⟨v2,e2,ml,b1,b2⟩:=hc.entry (.bool false) n;obtain⟨ahU,b3,b4⟩:=b2 (.bool true) _ (ar (St.set s bn qu) bc ml);rw[set_set]at b3 b4;rw[wb]at a4;rw[zK]at b4;have l1:=h.lt bn uG;have l2:=h.lt bc uG;have kk:∀q,q≠bn->q≠bc->(St.set (St.set s bn qu) bc ahU).m.g q=s.m.g q:=λq h1 h2=>(al _ _ _ _ h2).trans (al _ _ _ _ h1);refine⟨v1,e1,mW,v2,e2,ml,_,a1,⟨qu,a3,b1,b3⟩,((Kp.refl _ s).set _ (.inl uG) l1).set _ (.inl uG) l2,rfl,?_,h.dirty.mono (kk bd n5 n7),a4.mono (al _ _ _ _ n9),h.idle.mono (kk bi (aFL n8) On),b4,h.nd,h.lt,h.lgs⟩;exact(kk p n2 n4).trans h.main
def MM (h:cP st p a lg M bd bn bi bc){n:Nat}(hu:M.bW n){v:CV}{T:jU}(hv:Sl st [bn,bc] v 1 (aj T))(hT:T.length=512):
 R 99 [.ptr p 0,I n,v] st λx st'=>x=I 0/\Kp [bn,bc] st st'/\st'.nx=st.nx/\cP st' p a lg {M with now:=ig M.now n T,count:=nj M.count n} bd bn bi bc:=by
 refine bP ?_;rw[w99];simp only[cD,af,ag,aEM,aFa];refine(vU h n).same ?_;have hlen:=hv.len 512 (by simp[hT]) qE st;simp only[hu,aFZ,cU,af,aFh,aG,aEM,aFa,aFf,bh,hlen];have e1:ai .neq (some .int) true (I ((512:Nat):Int)) (.int .i64 512) st=.ok (.bool false) st:=rfl;obtain⟨v1,i1,mW,v2,i2,ml,s5,a1,⟨qu,a2,a3,a4⟩,a5,a6,a7⟩:=zm (T:=T) (n:=n) h
 have Ou:∃bv off,oZ 512 v st=.ok (.ptr bv off) st/\bv≠bn/\∃l t g,st.m.g bv=some (.cells l t g)/\off+512<=l.length/\(l.drop off).take 512=aj T:=by
  rcases hv with⟨_,h⟩|⟨b,off,len,cap,grow,rfl,h2,h3,h4⟩
  .have:=congrArg List.length h;simp[hT]at this
  .have:len=512:=by simp[hT]at h2;omega
   subst this;rcases h4 with h4|⟨h5,h6,l,t,g,h7,h8,h9⟩
   .cases h4
   .refine⟨b,off,?_,λe=>h5 (by simp[e]),l,t,g,h7,qE,by simpa using h9⟩;have e:oZ 512 (.slice b off 512 cap grow) st=bH (Bool.and (Nat.ble 512 512) (Bool.or (Nat.beq grow 0) (Bool.and (Nat.ble 1 cap) (Nat.ble 512 cap)))) (.ok (.ptr b off) st) .bad:=rfl;rw[e,aP,aEW (by simp only[aFl,aFO,aFs,aFw];omega)]
 obtain⟨bv,off,b1,b2,l,t,g,b3,b4,b5⟩:=Ou;have b6:aI 512 (.ptr bv off) st=.ok (.agg (aj T)) st:=by rw[gF b3 b4,b5]
 have b7:aI 512 (.ptr bv off) (St.set st bn mW)=.ok (.agg (aj T)) (St.set st bn mW):=by rw[gF ((al _ _ _ _ b2).trans b3) b4,b5]
 simp only[e1,af,aF,aEM,aFa,ag,bG,bF,ah,aB,h.main,aq,aER,aEN,aEL,ay,b1,b6,a1,aS,aE,aN,a2,a3,a4,b7];exact⟨⟨aer,aer,⟨aer,aer⟩,aer⟩,aer,aer,a5,a6,a7⟩
end
section
variable {st st':St} {p a:Nat} {lg:CV} {M:bZ} {bd bn bi bc:Nat} {F:List Nat} {D:bf}
def abj (l:List UInt8):oC l<256^l.length:=by
 have key:∀k (l:List UInt8),l.length=k->oC l<256^k:=by
  intro k
  induction k with
  |zero=>intro l h;have:=aFi.1 h;subst this;simp[oC]
  |succ k ih=>
   intro l h;have ij:l≠[]:=λe=>by subst e;simp at h
   have e:=List.dropLast_concat_getLast ij;have h1:=ih l.dropLast Pb;have h2:=(l.getLast ij).toNat_lt;rw[<-e,tq,aHw];omega
 exact key _ l rfl
def ub (l:List UInt8)(h:l.length<=4)(i:Nat):oC (l.take i)<=4611686018427387904:=by
 have h1:=abj (l.take i);have h2:(l.take i).length<=4:=O0
 have h3:256^(l.take i).length<=256^4:=Nat.pow_le_pow_right qE h2;omega
def cP.Em (h:cP st p a lg M bd bn bi bc)(m':j9):Kp [p] st (St.set st p (.cells [.ptr a 0,lg,I M.first,I M.aH,.map bd,.map bn,I M.kept.root,I M.kept.used,I M.kept.head,I M.kept.free,I m'.root,I m'.used,I m'.head,I m'.free,.map bi,.map bc] 158 false))/\
 cP (St.set st p (.cells [.ptr a 0,lg,I M.first,I M.aH,.map bd,.map bn,I M.kept.root,I M.kept.used,I M.kept.head,I M.kept.free,I m'.root,I m'.used,I m'.head,I m'.free,.map bi,.map bc] 158 false)) p a lg {M with m:=m'} bd bn bi bc:=by
 have nd:=h.nd;simp only[aFd,aEP,aFy,aGt,aGk]at nd;exact⟨(Kp.refl _ st).set _ (.inl uG) (h.lt p uG),ar _ _ _,h.dirty.mono (al _ _ _ _ (aFL nd.1.1)),h.now.mono (al _ _ _ _ (aFL nd.1.2.1)),h.idle.mono (al _ _ _ _ (aFL nd.1.2.2.1)),h.count.mono (al _ _ _ _ (aFL nd.1.2.2.2)),h.nd,h.lt,h.lgs⟩
def bZ.Bc (M:bZ):bZ:={M with m:={M.m with used:=M.m.used+1},now:=ig M.now M.m.used lj,count:=nj M.count M.m.used}
def bZ.xU (M:bZ)(D:bf):bZ:={M with m:={M.m with head:=oC ((M.get D M.m.head).take 4),free:=M.m.free-1},idle:=zL M.idle M.m.head,now:=ig M.now M.m.head lj,count:=nj M.count M.m.head}
def Kv:zr 512=aj lj:=nO 512
def KS (s:St):bk (zr 512) [] s=.ok (.agg (zr 512)) s:=by rw[dV,ld]
def Ob (h:cP st p a lg M bd bn bi bc)(h1:M.aH<=1000000)(h2:M.m.used<=1000000)(h3:M.m.free<=1000000)(hf:M.cF≠0)(h0:M.m.head=0):
 R 97 [.ptr p 0] st λv st'=>v=.tuple [I M.m.used,I 0]/\Kp [p,bn,bc] st st'/\st'.nx=st.nx/\cP st' p a lg M.Bc bd bn bi bc:=by
 refine bP ?_;rw[w97];simp only[cD,af,ag,aEM,aFa];refine(Ac h h1 h2 h3).same ?_;have e1:ai .eql (some .int) true (I M.cF) (.int .i64 0) st=.ok (.bool false) st:=by rw[az,cI,aEO hf]
 have e2:ai .eql (some .int) true (I M.m.head) (.int .i64 0) st=.ok (.bool true) st:=by rw[h0];rfl
 have e3:ai .add none true (I M.m.used) (.int .i64 1) st=.ok (I ((M.m.used+1:Nat):Int)) st:=xt
 have kP:bD [.ptr a 0,lg,I M.first,I M.aH,.map bd,.map bn,I M.kept.root,I M.kept.used,I M.kept.head,I M.kept.free,I M.m.root,I M.m.used,I M.m.head,I M.m.free,.map bi,.map bc] 11 [I ((M.m.used+1:Nat):Int)]=[.ptr a 0,lg,I M.first,I M.aH,.map bd,.map bn,I M.kept.root,I M.kept.used,I M.kept.head,I M.kept.free,I M.m.root,I ((M.m.used+1:Nat):Int),I M.m.head,I M.m.free,.map bi,.map bc]:=rfl;obtain⟨k2,g2⟩:=h.Em {M.m with used:=M.m.used+1};simp only[e1,af,ag,aEM,aFa,sY,bF,ah,aB,h.main,aq,aER,Nat.reduceAdd,aEN,aEL,ay,e2,aFm,e3,Bx,aJ,aW,jc,kP];refine⟨⟨rfl,rfl,uG⟩,?_⟩;have n2:(St.set st p (.cells [.ptr a 0,lg,I M.first,I M.aH,.map bd,.map bn,I M.kept.root,I M.kept.used,I M.kept.head,I M.kept.free,I M.m.root,I ((M.m.used+1:Nat):Int),I M.m.head,I M.m.free,.map bi,.map bc] 158 false)).nx=st.nx:=rfl;simp only at k2 g2;generalize St.set st p (.cells [.ptr a 0,lg,I M.first,I M.aH,.map bd,.map bn,I M.kept.root,I M.kept.used,I M.kept.head,I M.kept.free,I M.m.root,I ((M.m.used+1:Nat):Int),I M.m.head,I M.m.free,.map bi,.map bc] 158 false)=s2 at*;obtain⟨v1,i1,mW,v2,i2,ml,s5,a1,⟨qu,a2,a3,a4⟩,a5,a6,a7⟩:=zm (T:=lj) (n:=M.m.used) g2;rw[<-Kv]at a2;have hm:=g2.main;simp only[bG,af,hm,aq,aEN,aEL,ay,KS,a1,aS,aE,aN,a2,a3,a4];refine⟨⟨aer,aer,aer⟩,aer,aer,(k2.mono uG).trans a5 uG,qE,a7⟩
end
section
variable {st st':St} {p a:Nat} {lg:CV} {M:bZ} {bd bn bi bc:Nat} {F:List Nat} {D:bf}
def fo (h:Nat):jU:=be 4 h++List.replicate 508 0
def sR (h:Nat):(fo h).length=512:=by
 unfold fo;rw[aEU,il,aFI]
def MW (h:Nat):bD (zr 512) 0 (aj (be 4 h))=aj (fo h):=by
 unfold bD fo;rw[bL,aGM,aFt,bJ,il,nO]
 congr 1
def bZ.drop (M:bZ)(n:Nat):bZ:={M with m:={M.m with head:=n,free:=M.m.free+1},now:=ig M.now n (fo M.m.head),count:=nj M.count n,idle:=nj M.idle n}
def VO (h:cP st p a lg M bd bn bi bc){n:Nat}(hu:M.bW n)(h3:M.m.free<=1000000)(h4:M.m.head<=1000000):
 R 95 [.ptr p 0,I n] st λv st'=>v=I 0/\Kp [p,bn,bi,bc] st st'/\cP st' p a lg (M.drop n) bd bn bi bc:=by
 refine bP ?_;rw[w95];simp only[cD,af,ag,aEM,aFa];refine(vU h n).same ?_;have k2:Kp [] st (St.new st (.cells (zr 512) 173 false)):=(Kp.refl [] st).new _;have g2:(St.new st (.cells (zr 512) 173 false)).m.g st.nx=some (.cells (zr 512) 173 false):=ao _ _;have n2:(St.new st (.cells (zr 512) 173 false)).nx=st.nx+1:=rfl;simp only[hu,aFZ,cU,af,aFh,ag,aEM,aFa,cH,aS,bG];generalize St.new st (.cells (zr 512) 173 false)=s2 at*;have Bq:bY 512 1 (.ptr st.nx 0) none (some (.int .i64 4)) s2=.ok (.slice st.nx 0 4 512 0) s2:=rfl;have h2:=h.keep k2 uG;have Tz:=h2.main;simp only[Bq,af,bF,ah,aB,Tz,aq,aER,Nat.reduceAdd,aEN,aEL,ay];refine(Jl (n:=M.m.head) (len:=4) (off:=0) (cap:=512) g2 qE (by rw[qC];decide) qE qE).mono ?_;rintro _ s3 ⟨k3,n3,g3⟩;rw[MW]at g3;have He:(aj (fo M.m.head)).length=512:=by simp[sR]
 have G0:∀b∈[p,bd,bn,bi,bc],b∉[st.nx]:=λb hb=>by have:=h.lt b hb;simp;omega
 have h3':=h2.keep k3 G0;have hm3:=h3'.main;obtain⟨v1,i1,mW,v2,i2,ml,s7,a1,⟨qu,a2,a3,a4⟩,a5,a6,a7⟩:=zm (T:=fo M.m.head) (n:=n) h3';have b6:=aK g3 He;have Hm:st.nx≠bn:=λe=>by have:=h.lt bn uG;omega
 have b7:aI 512 (.ptr st.nx 0) (St.set s3 bn mW)=.ok (.agg (aj (fo M.m.head))) (St.set s3 bn mW):=aK ((al _ _ _ _ Hm).trans g3) He;have hm7:=a7.main;have e3:∀s,ai .add none true (I M.m.free) (.int .i64 1) s=.ok (I ((M.m.free+1:Nat):Int)) s:=λs=>xt
 obtain⟨k9,g9⟩:=a7.Em {M.m with head:=n,free:=M.m.free+1};have qk:bD [.ptr a 0,lg,I M.first,I M.aH,.map bd,.map bn,I M.kept.root,I M.kept.used,I M.kept.head,I M.kept.free,I M.m.root,I M.m.used,I M.m.head,I M.m.free,.map bi,.map bc] 12 [I n]=[.ptr a 0,lg,I M.first,I M.aH,.map bd,.map bn,I M.kept.root,I M.kept.used,I M.kept.head,I M.kept.free,I M.m.root,I M.m.used,I n,I M.m.free,.map bi,.map bc]:=rfl;have kx:bD [.ptr a 0,lg,I M.first,I M.aH,.map bd,.map bn,I M.kept.root,I M.kept.used,I M.kept.head,I M.kept.free,I M.m.root,I M.m.used,I n,I M.m.free,.map bi,.map bc] 13 [I ((M.m.free+1:Nat):Int)]=[.ptr a 0,lg,I M.first,I M.aH,.map bd,.map bn,I M.kept.root,I M.kept.used,I M.kept.head,I M.kept.free,I M.m.root,I M.m.used,I n,I ((M.m.free+1:Nat):Int),.map bi,.map bc]:=rfl;obtain⟨blk,u1,u2,u3⟩:=IsMap.update (.inl g9.idle) n (.bool true);simp only at k9 g9 u1 u2 u3;simp only[bF,ah,af,aB,hm3,aq,aER,Nat.reduceAdd,aEN,aEL,ay,b6,b7,a1,aS,aE,aN,a2,a3,a4,sY,hm7,e3,Bx,aJ,aW,jc,qk,ar,kx,set_set,fB,u1];have nd:=h.nd;simp only[aFd,aEP,aFy,aGt,aGk]at nd;obtain⟨⟨m1,m2,m3,m4⟩,⟨m5,m6,m7⟩,⟨m8,m9⟩,m10,_⟩:=nd;refine⟨⟨aer,aer⟩,aer,⟨aer,aer,⟨aer,aer⟩,aer⟩,aer,⟨rfl,rfl,uG⟩,⟨rfl,rfl,uG⟩,aer,?_,?_⟩
 .have q1:Kp [p,bn,bi,bc] st s3:=(k2.trans k3 uG).mono uG;have q2:=q1.trans a5 uG;refine(q2.trans k9 uG).set _ (.inl uG) ?_;have:=g9.lt bi uG;exact this
 .have u4:=u3 g9.idle;rw[zK]at u4;exact⟨(al _ _ _ blk m3).trans g9.main,g9.dirty.mono (al _ _ _ blk m6),g9.now.mono (al _ _ _ blk m8),u4,g9.count.mono (al _ _ _ blk (aFL m10)),h.nd,g9.lt,h.lgs⟩
end
section
variable {st st':St} {p a:Nat} {lg:CV} {M:bZ} {bd bn bi bc:Nat} {F:List Nat} {D:bf}
def Oa (h:cP st p a lg M bd bn bi bc)(hd:dz st a F D)(rY:D.dead=false)(h1:M.aH<=1000000)(h2:M.m.used<=1000000)(h3:M.m.free<=1000000)(hf:M.cF≠0)(XE:0<M.m.free)(h0:M.m.head≠0)
 (hn:M.first+M.m.head<D.aA.length) (hs:(M.get D M.m.head).length=512):
 R 97 [.ptr p 0] st λv st'=>v=.tuple [I M.m.head,I 0]/\Kp [p,bn,bi,bc] st st'/\cP st' p a lg (M.xU D) bd bn bi bc:=by
 refine bP ?_;rw[w97];simp only[cD,af,ag,aEM,aFa];refine(Ac h h1 h2 h3).same ?_;have e1:ai .eql (some .int) true (I M.cF) (.int .i64 0) st=.ok (.bool false) st:=by rw[az,cI,aEO hf]
 have e2:ai .eql (some .int) true (I M.m.head) (.int .i64 0) st=.ok (.bool false) st:=Ft
 simp only[e1,af,ag,aEM,aFa,sY,bF,ah,aB,h.main,aq,aER,Nat.reduceAdd,aEN,aEL,ay,e2];refine(zi h hd rY hn hs).mono ?_;rintro _ s7 ⟨rfl,k7⟩;have Bs:(aj (M.get D M.m.head)).length=512:=aaX
 simp only[aE,aN,af];refine lD Bs (bI _) ?_;have k9:=k7.page (aj (M.get D M.m.head));have g9:(St.set (St.new s7 (.cells (zr 512) 173 false)) s7.nx (.cells (aj (M.get D M.m.head)) 173 false)).m.g s7.nx=some (.cells (aj (M.get D M.m.head)) 173 false):=ar _ _ _;have n9:(St.set (St.new s7 (.cells (zr 512) 173 false)) s7.nx (.cells (aj (M.get D M.m.head)) 173 false)).nx=s7.nx+1:=rfl;generalize St.set (St.new s7 (.cells (zr 512) 173 false)) s7.nx (.cells (aj (M.get D M.m.head)) 173 false)=s9 at*;have h9:=h.keep k9 uG;have Xs:=h9.main;have Bq:bY 512 1 (.ptr s7.nx 0) none (some (.int .i64 4)) s9=.ok (.slice s7.nx 0 4 512 0) s9:=rfl;have BO:aj ((M.get D M.m.head).take 4)=(aj (M.get D M.m.head)).take 4:=abK
 have lq:Sl s9 [] (.slice s7.nx 0 4 512 0) 1 (aj ((M.get D M.m.head).take 4)):=.inr ⟨s7.nx,0,4,512,0,rfl,by rw[BO,aFc];omega,⟨qE,.inl rfl⟩,.inr ⟨uG,qE,_,_,_,g9,qE,by rw[aFr,BO]⟩⟩;simp only[az,fh,aFZ,aFh,af,ag,aEM,aFa,bG,Bq];have hl4:((M.get D M.m.head).take 4).length<=4:=O0
 refine(tJ lq qE (ub _ hl4)).same ?_;have e3:∀s,jX .sub .i64 (M.m.free:Int) .i64 1 s=.ok (I ((M.m.free-1:Nat):Int)) s:=λs=>by rw[dR,bz qE];congr 2;omega
 obtain⟨qg,rj⟩:=h9.Em {M.m with head:=oC ((M.get D M.m.head).take 4),free:=M.m.free-1};have qk:bD [.ptr a 0,lg,I M.first,I M.aH,.map bd,.map bn,I M.kept.root,I M.kept.used,I M.kept.head,I M.kept.free,I M.m.root,I M.m.used,I M.m.head,I M.m.free,.map bi,.map bc] 12 [I (oC ((M.get D M.m.head).take 4))]=[.ptr a 0,lg,I M.first,I M.aH,.map bd,.map bn,I M.kept.root,I M.kept.used,I M.kept.head,I M.kept.free,I M.m.root,I M.m.used,I (oC ((M.get D M.m.head).take 4)),I M.m.free,.map bi,.map bc]:=rfl;have kx:bD [.ptr a 0,lg,I M.first,I M.aH,.map bd,.map bn,I M.kept.root,I M.kept.used,I M.kept.head,I M.kept.free,I M.m.root,I M.m.used,I (oC ((M.get D M.m.head).take 4)),I M.m.free,.map bi,.map bc] 13 [I ((M.m.free-1:Nat):Int)]=[.ptr a 0,lg,I M.first,I M.aH,.map bd,.map bn,I M.kept.root,I M.kept.used,I M.kept.head,I M.kept.free,I M.m.root,I M.m.used,I (oC ((M.get D M.m.head).take 4)),I ((M.m.free-1:Nat):Int),.map bi,.map bc]:=rfl;obtain⟨ey,u1,u2,u3⟩:=rj.idle.delete (M.m.head:Int);simp only at qg rj u1 u2 u3;have nd:=h.nd;simp only[aFd,aEP,aFy,aGt,aGk]at nd;obtain⟨⟨m1,m2,m3,m4⟩,⟨m5,m6,m7⟩,⟨m8,m9⟩,m10,_⟩:=nd;have hb9:=rj.lt bi uG;rw[PE]at u3;generalize aqw:St.set s9 p (.cells [.ptr a 0,lg,I M.first,I M.aH,.map bd,.map bn,I M.kept.root,I M.kept.used,I M.kept.head,I M.kept.free,I M.m.root,I M.m.used,I (oC ((M.get D M.m.head).take 4)),I ((M.m.free-1:Nat):Int),.map bi,.map bc] 158 false)=bO at*
 have oM:Kp [bi] bO ey:=by
  rcases u2 with rfl|⟨blk,rfl⟩
  .exact Kp.refl _ _
  .exact(Kp.refl _ bO).set _ (.inl uG) hb9
 have kk:∀q∈[p,bd,bn,bi,bc],q≠bi->ey.m.g q=bO.m.g q:=λq hq ij=>oM.keep q (rj.lt q hq) abR
 have h13:cP ey p a lg {M with m:={M.m with head:=oC ((M.get D M.m.head).take 4),free:=M.m.free-1},idle:=zL M.idle M.m.head} bd bn bi bc:=
  ⟨(kk p uG m3).trans rj.main,rj.dirty.mono (kk bd uG m6),rj.now.mono (kk bn uG m8),u3,rj.count.mono (kk bc uG (aFL m10)),h.nd,λb hb=>aFg (rj.lt b hb) oM.nx,h.lgs⟩
 obtain⟨v1,i1,mW,v2,i2,ml,jd,a1,⟨qu,a2,a3,a4⟩,a5,a6,a7⟩:=zm (T:=lj) (n:=M.m.head) h13;rw[<-Kv]at a2;have aoB:=h13.main;have Vi:=rj.main;simp only[bF,ah,af,aB,Xs,aq,aER,Nat.reduceAdd,aEN,aEL,ay,az,e3,aJ,aW,jc,qk,ar,kx,set_set,aqw,fB,u1,aS,aoB,KS,a1,aE,aN,a2,a3,a4];have kA:Kp [p,bn,bi,bc] st bO:=(k9.mono uG).trans qg uG;have kB:=kA.trans oM uG;exact⟨⟨rfl,rfl,uG⟩,⟨rfl,rfl,uG⟩,⟨⟨aer,aer⟩,aer⟩,aer,⟨aer,aer,aer⟩,aer,aer,kB.trans a5 uG,a7⟩
end
section
variable {st st':St} {p a:Nat} {lg:CV} {M:bZ} {bd bn bi bc:Nat} {F:List Nat} {D:bf}
def pU (hd:dz st a F D):R 70 [.ptr a 0] st λv st'=>v=I ((D.aA.length/4:Nat):Int)/\st'=st:=by
 refine bP ?_;rw[w70];refine(vu hd).same ?_;have hsz:=(show D.aA.length<=65536 from by obtain⟨_,_,_,_,_,_,_,h⟩:=hd;exact h.size)
 have e:ai .quo none true (I D.aA.length) (.int .i64 4) st=.ok (I ((D.aA.length/4:Nat):Int)) st:=by
  have e0:ai .quo none true (I D.aA.length) (.int .i64 4) st=.ok (I (IntKind.i64.wrap (Int.tdiv D.aA.length 4))) st:=rfl;have e1:Int.tdiv (D.aA.length:Int) 4=((D.aA.length/4:Nat):Int):=rfl;rw[e0,e1,bz qE]
 rw[e,af];exact⟨rfl,rfl⟩
def dD (base:Nat):jU:=[98,117,116,116,101,114,121,49]++be 8 base++List.replicate 496 0
def rf (base:Nat):(dD base).length=512:=by
 unfold dD;simp only[aEU,il,aFI,aFp,aGu]
def bf.head (D:bf)(base:Nat):Int×bf:=if (D.write 0 (dD base)).1=0 then (D.write 0 (dD base)).2.flush else D.write 0 (dD base)
def LO (hf:eH st)(hd:dz st a F D)(hw:D.waits.length<90000000){base:Nat}(hb:base<9223372036854775808):R 89 [.ptr a 0,I base] st λv st'=>v=I (D.head base).1/\tw a F st (D.head base).2 st':=by
 refine bP ?_;rw[w89];have k1:Kp [] st (St.new st (.cells (zr 512) 173 false)):=(Kp.refl [] st).new _;have g1:(St.new st (.cells (zr 512) 173 false)).m.g st.nx=some (.cells (zr 512) 173 false):=ao _ _;have n1:(St.new st (.cells (zr 512) 173 false)).nx=st.nx+1:=rfl;rw[cH,aS];generalize St.new st (.cells (zr 512) 173 false)=s1 at*;have Bq:∀s,bY 512 1 (.ptr st.nx 0) none none s=.ok (.slice st.nx 0 512 512 0) s:=λs=>rfl
 have hcp:gJ true 1 (.slice st.nx 0 512 512 0) (.str [98,117,116,116,101,114,121,49]) s1=.ok (I 8) (St.set s1 st.nx (.cells (bD (zr 512) 0 (aj [98,117,116,116,101,114,121,49])) 173 false)):=by
  have e:gJ true 1 (.slice st.nx 0 512 512 0) (.str [98,117,116,116,101,114,121,49]) s1=(match s1.m.g st.nx with
   |some (.cells s ty g)=>Option.rec (Option.rec .bad (λs'=>yQ .i64 ⟨s1.m.put st.nx (some (.cells s' ty g)),s1.nx⟩ 8) (B0 s 0 (aj [98,117,116,116,101,114,121,49]) (0+512*0))) (λs'=>yQ .i64 ⟨s1.m.put st.nx (some (.cells s' ty g)),s1.nx⟩ 8) (dY s 0 (aj [98,117,116,116,101,114,121,49]))
   |_=>.bad):=rfl
  rw[e,g1];have e3:dY (zr 512) 0 (aj [98,117,116,116,101,114,121,49])=some (bD (zr 512) 0 (aj [98,117,116,116,101,114,121,49])):=by unfold dY;rw[aEW (by rw[qC];decide)];rfl
  dsimp only;rw[e3];rfl
 have aog:bD (zr 512) 0 (aj [98,117,116,116,101,114,121,49])=aj [98,117,116,116,101,114,121,49]++aj (List.replicate 504 0):=by
  have e:zr 512=aj (List.replicate 8 0)++aj (List.replicate 504 0):=by rw[nO,<-bL,List.replicate_append_replicate]
  rw[e];rfl
 rw[aog]at hcp;have hs8:∀s,bY 512 1 (.ptr st.nx 0) (some (.int .i64 8)) (some (.int .i64 16)) s=.ok (.slice st.nx 8 8 504 0) s:=λs=>rfl;simp only[Bq,af,hcp,aS,hs8];have k2:Kp [] st (St.set s1 st.nx (.cells (aj [98,117,116,116,101,114,121,49]++aj (List.replicate 504 0)) 173 false)):=k1.set _ (.inr (aEQ _)) qE;have g2:(St.set s1 st.nx (.cells (aj [98,117,116,116,101,114,121,49]++aj (List.replicate 504 0)) 173 false)).m.g st.nx=some (.cells (aj [98,117,116,116,101,114,121,49]++aj (List.replicate 504 0)) 173 false):=ar _ _ _;have n2:(St.set s1 st.nx (.cells (aj [98,117,116,116,101,114,121,49]++aj (List.replicate 504 0)) 173 false)).nx=s1.nx:=rfl;generalize St.set s1 st.nx (.cells (aj [98,117,116,116,101,114,121,49]++aj (List.replicate 504 0)) 173 false)=s2 at*;refine(Jl (n:=base) (len:=8) (off:=8) (cap:=504) g2 qE uG qE hb).mono ?_;rintro _ s3 ⟨k3,n3,g3⟩
 have qk:bD (aj [98,117,116,116,101,114,121,49]++aj (List.replicate 504 0)) 8 (aj (be 8 base))=aj (dD base):=by
  have e:=qa (aj [98,117,116,116,101,114,121,49]) (aj (List.replicate 504 0)) (aj (be 8 base));have e2:(aj [98,117,116,116,101,114,121,49]).length=8:=rfl
  have e3:(aj (List.replicate 504 0)).drop (aj (be 8 base)).length=aj (List.replicate 496 0):=by
   unfold aj;rw[<-aGl,aGW,aFK,il]
  rw[e2,e3]at e;rw[e];unfold dD;rw[bL,bL,aFx]
 rw[qk]at g3;have hl:=rf base;have Ox:(aj (dD base)).length=512:=adf
 have k03:=k2.trans k3 uG;have lq:Sl s3 F (.slice st.nx 0 512 512 0) 1 (aj (dD base)):=.inr ⟨st.nx,0,512,512,0,rfl,qE,⟨aEQ _,.inl rfl⟩,.inr ⟨λh=>by have:=hd.lt _ h;omega,qE,_,_,_,g3,qE,O4⟩⟩;refine(vS (i:=0) (hd.keep k03 uG) (k03.fresh hf) qE lq hl).mono ?_;rintro _ s4 ⟨rfl,k4,F',d4,rT⟩;have Nz:∀b∈F',b∈F\/st.nx<=b:=λb hb=>(rT b hb).imp id λh=>by have:=k03.nx;omega
 unfold bf.head
 by_cases hz:(D.write 0 (dD base)).1=0
 .rw[aEW hz];obtain⟨z1,z2,z3⟩:=zw hz;simp only[hz,az,fh,aFZ,aFh,af,ag,aEM,aFa];refine(wT d4 (by rw[z2];simp;omega)).mono ?_;rintro _ s5 ⟨rfl,k5,F2,d5,xq⟩;exact⟨rfl,((k03.mono (λq hq=>by simp at hq)).trans k4 (ael)).trans k5 Nz,F2,d5,λb hb=>(xq b hb).elim (Nz b) λh=>.inr (by have:=k03.nx;have:=k4.nx;omega)⟩
 .rw[aET hz];simp only[az,fh,hz,aGv,aFf,af,ag,aFm];exact⟨aer,(k03.mono (λq hq=>by simp at hq)).trans k4 (ael),F',d4,Nz⟩
end
