import Derived.Test.YtckodcbgpffimaaGreatDoorRingB
namespace Lim
open Go
noncomputable section
set_option linter.defProp false
set_option maxRecDepth 100000
section
variable {Z Z':O}
def tL (l:δ Γ):Nat:=l.foldl (λa b=>a*256+b.toNat) 0
def uQ (l:δ Γ)(b:Γ):tL (l++[b])=tL l*256+b.toNat:=by simp[tL]
def be (k n:Nat):δ Γ:=(le k n).reverse
def kV (k n:Nat):(be k n).length=k:=by simp[be,jv]
def GK (k n:Nat):be (k+1) n=UInt8.ofNat (n/256^k%256)::be k n:=by simp[be,le]
def TL (k:Nat):∀n c:Nat,(be k n).foldl (λa b=>a*256+b.toNat) c=c*256^k+n%256^k:=by
 induction k with
 |zero=>intro n c;simp[be,le,Nat.mod_one]
 |succ k d=>
  intro n c;rw[GK,List.foldl_cons,d];have f:(UInt8.ofNat (n/256^k%256)).toNat=n/256^k%256:=V
  have e:n%256^(k+1)=n%256^k+256^k*(n/256^k%256):=by rw[WP,Nat.mod_mul]
  rw[f,e,WP,tx,Nat.mul_assoc,LH 256 (256^k),LH (n/256^k%256)];omega
def Uz (k n:Nat)(h:n<256^k):tL (be k n)=n:=by
 unfold tL;rw[TL,Nat.zero_mul,oa,QF h]
def D6 (a m k:Nat)(h:a<2^k)(b:a+m*2^k<9223372036854775808)(d:υ lB)(c:Bool)(Z:O):R .or d c (ζ (m*2^k)) (I a) Z=.ok (ζ (m*2^k+a)) Z:=by
 have e:R .or d c (ζ (m*2^k)) (I a) Z=(match lr .or .i64 ((m*2^k:Nat):Int) (a:Int)with|some r=>.ok (I r) Z|none=>.bad):=rfl
 have f:lr .or .i64 ((m*2^k:Nat):Int) (a:Int)=lr .or .i64 (a:Int) ((m*2^k:Nat):Int):=by
  show Φ (IntKind.i64.wrap ((BitVec.ofInt 64 _|||BitVec.ofInt 64 _).toNat:Int))=Φ (IntKind.i64.wrap ((BitVec.ofInt 64 _|||BitVec.ofInt 64 _).toNat:Int));rw[BitVec.or_comm]
 rw[e,f,YC a m k h b,æ]
def Pj {X:δ Nat}{v:K}{l:δ Γ}(h:Sl Z X v 1 (al l))(q:l.length<=1000)(b:∀i,tL (l.take i)<=4611686018427387904):Rq0 112 [v] Z λx Z'=>x=I (tL l)/\Z'=Z:=by
 refine bE ?_;rw[aqO];have hlen:=h.len l.length V J Z;show U _ _;rw[hlen,af];show cV ..;simp only[ke];refine bD (λfu a s=>∃i,fu+i=l.length/\a=[I (tL (l.take i)),v,I l.length,I i]/\s=Z) ?_ (n:=l.length) ⟨0,rfl,rfl,rfl⟩;rintro fu a s k ⟨i,hi,rfl,rfl⟩ next;simp only[ke]
 by_cases hc:i<l.length
 .have a1:R .lss ν false (I i) (I l.length) s=.ok ι s:=by rw[au,cU,jp J]
  have r:=b i;have p:=b (i+1);have c:l.take (i+1)=l.take i++[l[i]]:=by rw[su hc]
  rw[c,uQ]at p;have d:=(l[i]).toNat_lt
  have o:R .shl ν true (I (tL (l.take i))) (.int .u64 8) s=.ok (ζ (tL (l.take i)*2^8)) s:=by
   have e:R .shl ν true (I (tL (l.take i))) (.int .u64 8) s=.ok (I (IntKind.i64.wrap ((tL (l.take i):Int)*2^8))) s:=rfl;rw[e,bt J];simp
  have m:cX (.toInt .i64) (bG l[i]) s=.ok (I (l[i]).toNat) s:=AW _ J _ _;have j:R .or ν false (ζ (tL (l.take i)*2^8)) (I (l[i]).toNat) s=.ok (ζ (tL (l.take i)*2^8+(l[i]).toNat)) s:=D6 _ _ _ J J ..;have g:R .add ν true (I i) ϖ s=.ok (ζ (i+1)) s:=AU
  simp only[a1,xl,ix,o];refine h.idx EV _ ?_;have f:(al l)[i]'(by simpa using hc)=bG l[i]:=ZO
  rw[f,m,af,j,af,g,af];exact next (fu-1) _ _ J ⟨i+1,J,by rw[c,uQ],rfl⟩
 .have a1:R .lss ν false (I i) (I l.length) s=.ok Θ s:=by rw[au,cU,jo J]
  simp only[a1,ll,ii];rw[lw J];exact⟨rfl,gt⟩
def D8 (L T:δ K)(p:Nat)(x:K)(h:p+1+T.length<=L.length):bC (bC L (p+1) T) p [x]=bC L p (x::T):=by
 unfold bC
 have c:(L.take (p+1)++(T++L.drop (p+1+T.length))).take p=L.take p:=by
  rw[List.take_append_of_le_length OH,AQ,us J]
 have b:(L.take (p+1)++(T++L.drop (p+1+T.length))).drop (p+1)=T++L.drop (p+1+T.length):=by
  rw[List.drop_append,ys OH,pu,us J,Nat.sub_self,tu,ow]
 simp only[lx,IR,oa];rw[c,b];have a:p+(T.length+1)=p+1+T.length:=J
 rw[a];rfl
def Bo (L:δ K)(p:Nat):bC L p []=L:=by unfold bC;simp
def KU {b off len cap n:Nat}{L:δ K}{t:TypeId}{g:Bool}(j:Z.m.g b=Φ (.cells L t g))(G:b<Z.nx)(F:off+len<=L.length)(d:len<=8)(C:n<9223372036854775808):
 Rq0 169 [.slice b off len cap 0,I n] Z λx Z'=>Kp [b] Z Z'/\Z'.nx=Z.nx/\Z'.m.g b=Φ (.cells (bC L off (al (be len n))) t g):=by
 refine bE ?_;rw[aqa];simp only[yB,jM,af]
 refine bD (λfu c s=>∃i,fu+i=len/\c=[.slice b off len cap 0,I n,I len,I i]/\Kp [b] Z s/\s.nx=Z.nx/\s.m.g b=Φ (.cells (bC L (off+len-i) (al (be i n))) t g)) ?_ (n:=len) ⟨0,rfl,rfl,Δ _ _,rfl,by
  have:al (be 0 n)=[]:=rfl;rw[this,Bo];exact j⟩
 rintro fu c s k ⟨i,hi,rfl,e,f,a⟩ next;simp only[ke]
 by_cases D:i<len
 .have a1:R .lss ν false (I i) (I len) s=.ok ι s:=by rw[au,cU,jp J]
  have w:R .sub ν true (I len) ϖ s=.ok (ζ (len-1)) s:=CS
  have v:R .sub ν false (ζ (len-1)) (I i) s=.ok (ζ (len-1-i)) s:=CS
  have u:R .mul ν true (I 8) (I i) s=.ok (ζ (8*i)) s:=MR
  have r:de 1 (.slice b off len cap 0) (ζ (len-1-i)) s=.ok (.ptr b (off+(len-1-i)*1)) s:=iq J (.inl rfl) s;have q:∀s,R .add ν true (I i) ϖ s=.ok (ζ (i+1)) s:=λs=>AU
  simp only[a1,xl,ix,jM,w,v,u,Fj _ _ (show i<8 from J),Ks,BE,r,xz,a,q];have p:off+(len-1-i)*1=off+len-(i+1):=J
  have o:off+len-i=off+len-(i+1)+1:=J
  have vu:=kV i n
  have l:bC (bC L (off+len-i) (al (be i n))) (off+len-(i+1)) [bG (UInt8.ofNat (n/256^i%256))]=bC L (off+len-(i+1)) (al (be (i+1) n)):=by
   rw[o,D8 _ _ _ _ afI,GK];rfl
  have y:(bG (UInt8.ofNat (n/256^i%256))).bY=[bG (UInt8.ofNat (n/256^i%256))]:=rfl;rw[p,y,l];refine⟨⟨rfl,rfl,aeD⟩,next (fu-1) _ _ J ⟨i+1,J,rfl,e.set _ (.inl V) J,f,ao ..⟩⟩
 .have a1:R .lss ν false (I i) (I len) s=.ok Θ s:=by rw[au,cU,jo J]
  simp only[a1,ll,ii];have z:i=len:=J
  subst z;rw[Pi]at a;exact⟨e,f,a⟩
end
structure mQ where
 root:Nat
 used:Nat
 head:Nat
 free:Nat
structure cA where
 first:Nat
 aO:Nat
 cC:List (Nat×kh)
 now:List (Nat×kh)
 kept:mQ
 m:mQ
 idle:List Nat
 count:List Nat
def iA (l:δ (Nat×kh)):MZ:=l.map λp:Nat×kh=>(Int.ofNat p.1,K.agg (al p.2))
def vS (l:δ Nat):MZ:=l.map λn:Nat=>(Int.ofNat n,K.bool true)
def dm (l:δ (Nat×kh))(n:Nat):υ kh:=match l with|[]=>ν|p::r=>if n=p.1 then Φ p.2 else dm r n
def jr (l:δ (Nat×kh))(n:Nat)(s:kh):δ (Nat×kh):=match l with|[]=>[(n,s)]|p::r=>if n=p.1 then (n,s)::r else p::jr r n s
def ib (l:δ Nat)(n:Nat):δ Nat:=match l with|[]=>[n]|p::r=>if n=p then p::r else p::ib r n
def A4 (l:δ Nat)(n:Nat):δ Nat:=match l with|[]=>[]|p::r=>if n=p then r else p::A4 r n
def xS (l:δ (Nat×kh))(n:Nat):kz (iA l) n=(dm l n).map λs=>.agg (al s):=by
 induction l with
 |nil=>rfl
 |cons p r b=>
  show(if (n:Int)=(p.1:Int)then Φ (K.agg (al p.2))else kz (iA r) n)=_;simp only[dm]
  by_cases h:n=p.1
  .rw[gq h,gq J];rfl
  .rw[B h,B J];exact b
def A3 (l:δ (Nat×kh))(n:Nat)(s:kh):oQ (iA l) n (.agg (al s))=iA (jr l n s):=by
 induction l with
 |nil=>rfl
 |cons p r b=>
  show(if (n:Int)=(p.1:Int)then ((n:Int),K.agg (al s))::iA r else ((p.1:Int),K.agg (al p.2))::oQ (iA r) n (.agg (al s)))=_;simp only[jr]
  by_cases h:n=p.1
  .rw[gq h,gq J];rfl
  .rw[B h,B J,b];rfl
def Ru (l:List Nat)(n:Nat):kz (vS l) n=if n∈l then some (.bool true)else none:=by
 induction l with
 |nil=>rfl
 |cons p r b=>
  show(if (n:Int)=(p:Int)then some (K.bool true)else kz (vS r) n)=_
  by_cases h:n=p
  .rw[gq J,gq QO]
  .rw[B J,b];simp[h]
def HF (l:δ Nat)(n:Nat):oQ (vS l) n ι=vS (ib l n):=by
 induction l with
 |nil=>rfl
 |cons p r b=>
  show(if (n:Int)=(p:Int)then ((n:Int),K.bool true)::vS r else ((p:Int),K.bool true)::oQ (vS r) n ι)=_;simp only[ib]
  by_cases h:n=p
  .rw[gq h,gq J,h];rfl
  .rw[B h,B J,b];rfl
def Rv (l:δ Nat)(n:Nat):sR (vS l) n=vS (A4 l n):=by
 induction l with
 |nil=>rfl
 |cons p r b=>
  show(if (n:Int)=(p:Int)then vS r else ((p:Int),K.bool true)::sR (vS r) n)=_;simp only[A4]
  by_cases h:n=p
  .rw[gq h,gq J]
  .rw[B h,B J,b];rfl
structure dx (Z:O)(p a:Nat)(lg:K)(M:cA)(bd bn bi bc:Nat):Prop where
 main:Z.m.g p=some (.cells [.ptr a 0,lg,I M.first,I M.aO,.map bd,.map bn,I M.kept.root,I M.kept.used,I M.kept.head,I M.kept.free,I M.m.root,I M.m.used,I M.m.head,I M.m.free,.map bi,.map bc] 213 false)
 cC:IsMap Z bd (iA M.cC)
 now:ef Z bn (iA M.now)
 idle:ef Z bi (vS M.idle)
 count:ef Z bc (vS M.count)
 nd:[p,bd,bn,bi,bc].Nodup
 lt:∀b∈[p,bd,bn,bi,bc],b<Z.nx
 lgs:lg.bY=[lg]/\cI lg=true/\lg.isAny=false
section
variable {Z Z':O} {p a:Nat} {lg:K} {M:cA} {bd bn bi bc:Nat}
def dx.keep {X:δ Nat}(h:dx Z p a lg M bd bn bi bc)(d:Kp X Z Z')(e:∀b∈[p,bd,bn,bi,bc],b∉X):dx Z' p a lg M bd bn bi bc:=by
 have k:=λb c=>d.keep b (h.lt b c) (e b c);exact⟨(k p V).trans h.main,h.cC.mono (k bd V),h.now.mono (k bn V),h.idle.mono (k bi V),h.count.mono (k bc V),h.nd,λb c=>ov (h.lt b c) d.nx,h.lgs⟩
def cA.bT (M:cA):Int:=(M.aO:Int)-M.m.used+M.m.free
def cA.bV (M:cA)(n:Nat):Prop:=0<n/\n<M.m.used/\n∉M.idle
instance (M:cA) (n:Nat):Decidable (M.bV n):=by unfold cA.bV;infer_instance
def Bh (h:dx Z p a lg M bd bn bi bc)(f:M.aO<=1000000)(e:M.m.used<=1000000)(d:M.m.free<=1000000):Rq0 173 [.ptr p 0] Z λv Z'=>v=I M.bT/\Z'=Z:=by
 refine bE ?_;rw[apW];have c:IntKind.i64.wrap ((M.aO:Int)-M.m.used)=(M.aO:Int)-M.m.used:=bt J;have b:IntKind.i64.wrap ((M.aO:Int)-M.m.used+M.m.free)=M.bT:=bt J;simp[h.main,c,b]
def V8 (h:dx Z p a lg M bd bn bi bc):Rq0 96 [.ptr p 0] Z λv Z'=>v=I M.m.root/\Z'=Z:=by
 refine bE ?_;rw[w96];simp[oE,h.main]
def xK (h:dx Z p a lg M bd bn bi bc)(n:Nat):Rq0 184 [.ptr p 0,I n] Z λv Z'=>v=.bool (decide (M.bV n))/\Z'=Z:=by
 refine bE ?_;rw[apM];have b:=IsMap.lookup (.inl h.idle) (.bool false) false n Z rfl;rw[B tW,Ru]at b;unfold cA.bV
 by_cases d:0<n
 .by_cases h2:n<M.m.used
  .by_cases c:n∈M.idle
   .rw[gq c]at b;simp[d,h2,c,gG,lI,h.main,b]
   .rw[B c]at b;simp[d,h2,c,gG,lI,h.main,b]
  .simp[d,h2,gG,lI,h.main]
 .have:n=0:=by omega
  subst this;simp[gG,lI]
def KB (h:dx Z p a lg M bd bn bi bc)(n:Nat)(f:n=0\/M.bV n):Rq0 182 [.ptr p 0,I n] Z λv Z'=>v=I 0/\Kp [p] Z Z'/\Z'.nx=Z.nx/\dx Z' p a lg {M with m:={M.m with root:=n}} bd bn bi bc:=by
 refine bE ?_;rw[apN];have nd:=h.nd;simp only[me,ip,wn,GZ]at nd
 have b:CY 1 10 0 (.ptr p 0) (I n) Z λs2=>(I 0=I 0/\Kp [p] Z s2/\s2.nx=Z.nx/\dx s2 p a lg {M with m:={M.m with root:=n}} bd bn bi bc):=by
  have e:∀r,bC [K.ptr a 0,lg,I M.first,I M.aO,.map bd,.map bn,I M.kept.root,I M.kept.used,I M.kept.head,I M.kept.free,I r,I M.m.used,I M.m.head,I M.m.free,.map bi,.map bc] 10 [I n]=[K.ptr a 0,lg,I M.first,I M.aO,.map bd,.map bn,I M.kept.root,I M.kept.used,I M.kept.head,I M.kept.free,I n,I M.m.used,I M.m.head,I M.m.free,.map bi,.map bc]:=λ_=>rfl;simp only[CY,bk,ah,af,xz,h.main,jR,oa,rc,e];have c:=h.lt p V;have g:Kp [p] Z (O.set Z p (ϰ [K.ptr a 0,lg,I M.first,I M.aO,.map bd,.map bn,I M.kept.root,I M.kept.used,I M.kept.head,I M.kept.free,I n,I M.m.used,I M.m.head,I M.m.free,.map bi,.map bc])):=(Δ _ Z).set _ (.inl V) c;refine⟨⟨rfl,rfl,V⟩,gt,g,rfl,ao ..,h.cC.mono (ar _ _ _ _ (ny nd.1.1)),h.now.mono (ar _ _ _ _ (ny nd.1.2.1)),h.idle.mono (ar _ _ _ _ (ny nd.1.2.2.1)),h.count.mono (ar _ _ _ _ (ny nd.1.2.2.2)),h.nd,h.lt,h.lgs⟩
 by_cases d:n=0
 .subst d;simp
  simpa using b
 .have hu:=f.resolve_left d;simp[d];refine(xK h n).same ?_;simp[hu]
  simpa using b
end
section
variable {Z Z':O} {p a:Nat} {lg:K} {M:cA} {bd bn bi bc:Nat} {F:δ Nat} {D:aX}
def cA.get (M:cA)(D:aX)(n:Nat):kh:=match dm M.now n with|some s=>s|none=>match dm M.cC n with|some s=>s|none=>D.cur (M.first+n)
def Ng (s:kh)(h:s.length=512):bC (zr 512) 0 (al s)=al s:=db _ _ (by rw[bP,h];exact List.length_replicate.symm)
def tU:(zr 512).length=512:=F0
def QI:bh (zr 512)=θ:=by rw[rD];exact bK _
def pE {s:O}{T:δ K}{b:K->O->Prop}(c:T.length=512)(d:bh T=θ)(e:b (.ptr s.nx 0) (O.set (O.new s (ϛ (zr 512))) s.nx (ϛ T))):
 E (cK 225 (zr 512) s) λx s2=>E (aJ 512 x (.agg T) s2) λ_ s3=>b x s3:=by
 rw[bW,aP,aK,ay];have:bC (zr 512) 0 T=T:=db _ _ (by rw[c];exact tU.symm);rw[aU,aN,this];exact⟨⟨c,d,by rw[tU];exact hI _⟩,e⟩
def Kp.page {X:δ Nat}{s s2:O}(h:Kp X s s2)(T:δ K):Kp X s (O.set (O.new s2 (ϛ (zr 512))) s2.nx (ϛ T)):=(h.new _).set _ (.inr h.nx) V
def M9 (h:dx Z p a lg M bd bn bi bc)(z:dz Z a F D)(L:D.dead=φ){n:Nat}(hn:M.first+n<D.aB.length)(w:(M.get D n).length=512):
 Rq0 160 [.ptr p 0,I n] Z λv Z'=>v=.tuple [.agg (al (M.get D n)),μ]/\Kp [] Z Z':=by
 refine bE ?_;rw[aqe];have P:=(show D.aB.length<=65536 from by obtain⟨_,_,_,_,_,_,_,h⟩:=z;exact h.size);have l:Kp [] Z (O.new Z (ϛ (zr 512))):=(Δ [] Z).new _;have g1:(O.new Z (ϛ (zr 512))).m.g Z.nx=Φ (ϛ (zr 512)):=ay _ _;have n1:(O.new Z (ϛ (zr 512))).nx=Z.nx+1:=rfl;rw[bW,aP];generalize O.new Z (ϛ (zr 512))=s1 at*;have h1:=h.keep l V;have H:=IsMap.lookup (.inl h1.now) (.agg (zr 512)) true n s1 rfl;rw[gq rfl,xS]at H;simp only[fP,rr,h1.main,kc,io,H,DK]
 have e:∀(s:O) (T:kh),T.length=512->T=M.get D n->Kp [] Z s->s.m.g Z.nx=Φ (ϛ (zr 512))->Z.nx<s.nx->
  E (aJ 512 (.ptr Z.nx 0) (.agg (al T)) s) λ_ r=>U (aF 512 (.ptr Z.nx 0) r) λN=>(K.tuple [N,μ]=.tuple [.agg (al (M.get D n)),μ]/\Kp [] Z r):=by
  intro s T hT c Q S o;rw[aK,S,aU,aN,Ng T hT];have d:(al T).length=512:=aen
  refine⟨⟨d,bK _,by rw[tU];exact hI _⟩,?_⟩;rw[aG (n:=512) (ao s Z.nx (ϛ (al T))) d,af];exact⟨by rw[c],Q.set _ (.inr (hI _)) o⟩
 cases hp:dm M.now n with
 |some T=>
  have c:T=M.get D n:=by unfold cA.get;rw[hp]
  have hT:T.length=512:=by rw[c];exact w
  have d:(al T).length=512:=aen
  simp only[AR,Jd,Zd];refine pE d (bK _) ?_;rw[ag,gq rfl,aG (n:=512) (ao (O.new s1 (ϛ (zr 512))) s1.nx (ϛ (al T))) d,af];exact e _ T hT c (l.page _) aaY xI
 |none=>
  simp only[Option.map_none,Option.getD_none,Ov];refine pE tU QI ?_;have k:=l.page (zr 512);have g3:(O.set (O.new s1 (ϛ (zr 512))) s1.nx (ϛ (zr 512))).m.g Z.nx=Φ (ϛ (zr 512)):=aaY
  have n3:(O.set (O.new s1 (ϛ (zr 512))) s1.nx (ϛ (zr 512))).nx=s1.nx+1:=rfl;generalize O.set (O.new s1 (ϛ (zr 512))) s1.nx (ϛ (zr 512))=s3 at*;have C:=h.keep k V;have G:=IsMap.lookup C.cC (.agg (zr 512)) true n s3 rfl;rw[gq rfl,xS]at G;simp only[zY,ii,C.main,lW,kc,io,G];cases y:dm M.cC n with
  |some T=>
   have c:T=M.get D n:=by unfold cA.get;rw[hp,y]
   have hT:T.length=512:=by rw[c];exact w
   have d:(al T).length=512:=aen
   simp only[AR,Jd,Zd];refine pE d (bK _) ?_;rw[gq trivial,aG (n:=512) (ao (O.new s3 (ϛ (zr 512))) s3.nx (ϛ (al T))) d,af];exact e _ T hT c (k.page _) abc xI
  |none=>
   have c:D.cur (M.first+n)=M.get D n:=by unfold cA.get;rw[hp,y]
   simp only[Option.map_none,Option.getD_none,Ov];refine pE tU QI ?_;have j:=k.page (zr 512);have Y:(O.set (O.new s3 (ϛ (zr 512))) s3.nx (ϛ (zr 512))).m.g Z.nx=Φ (ϛ (zr 512)):=abc
   have n5:(O.set (O.new s3 (ϛ (zr 512))) s3.nx (ϛ (zr 512))).nx=s3.nx+1:=rfl;generalize O.set (O.new s3 (ϛ (zr 512))) s3.nx (ϛ (zr 512))=q at*;have W:=h.keep j V;have d5:=z.keep j V;have a1:R .add ν false (I M.first) (I n) q=.ok (ζ (M.first+n)) q:=AU
   simp only[yU,ii,aZ,W.main,lW,kc,io,a1];refine(FC d5 ((M.first+n:Nat):Int)).mono ?_;intro x f u
   have er:D.read ((M.first+n:Nat):Int)=(0,D.cur (M.first+n)):=by
    unfold aX.read;rw[B (by simp[L]),B J,û]
   rw[er,gq rfl]at u;obtain⟨i,hl,b,rfl,X,b1,b2⟩:=u;have n8:=i.nx;have Kd:qL 512 (.slice b 0 512 512 1) f=.ok (.ptr b 0) f:=rfl;have Qx:(al (D.cur (M.first+n))).length=512:=afG
   simp only[au,dJ,Al,zY,ii,Kd,aG X Qx];refine⟨⟨gt,gt,gt⟩,gt,?_⟩;exact e f _ hl c (j.trans i V) ((i.keep _ J V).trans Y) J
end
section
variable {Z Z':O} {p a:Nat} {lg:K} {M:cA} {bd bn bi bc:Nat} {F:δ Nat} {D:aX}
def RQ (h:dx Z p a lg M bd bn bi bc)(w:dz Z a F D)(d:D.dead=φ){n:Nat}(s:M.bV n)(u:M.first+n<D.aB.length)(hs:(M.get D n).length=512):
 Rq0 194 [.ptr p 0,I n] Z λv Z'=>Got (M.get D n) Z v Z':=by
 refine bE ?_;rw[apG];simp only[cc,ll,ii];refine(xK h n).same ?_;simp only[s,bZ,Al,ll,ii];refine(M9 h w d u hs).mono ?_;rintro _ s2 ⟨rfl,r⟩;have C:(al (M.get D n)).length=512:=acp
 simp only[u6];refine pE C (bK _) ?_;have c:=r.page (al (M.get D n));have z:(O.set (O.new s2 (ϛ (zr 512))) s2.nx (ϛ (al (M.get D n)))).m.g s2.nx=Φ (ϛ (al (M.get D n))):=ao ..;have Q:(O.set (O.new s2 (ϛ (zr 512))) s2.nx (ϛ (al (M.get D n)))).nx=s2.nx+1:=rfl;generalize O.set (O.new s2 (ϛ (zr 512))) s2.nx (ϛ (al (M.get D n)))=s4 at*;have G:cD 512 1 (.ptr s2.nx 0) ν ν s4=.ok (.slice s2.nx 0 512 512 0) s4:=rfl;simp only[au,dJ,Al,ll,ii,G];have q:Sl s4 [] (.slice s2.nx 0 512 512 0) 1 (al (M.get D n)):=.inr ⟨s2.nx,0,512,512,0,rfl,J,⟨hI _,.inl rfl⟩,.inr ⟨V,J,_,_,_,z,J,QN⟩⟩;refine(yL q J).mono ?_;rintro x H ⟨F',l,k,j,P⟩;obtain⟨b,o,i,N,f,L,e⟩:=k.row J;have:o=512:=J
 subst this;have y:=j b (by simp[i]);exact⟨c.trans l V,hs,b,by rw[f],e,by have:=c.nx;omega,y.2⟩
def AH {s:O}{T:kh}{n:Nat}(h:dx s p a lg M bd bn bi bc):
 ∃k i c j f d e,gp .int (.agg (zr 512)) (.map bn) (I n) s=.ok (.tuple [k,I i]) (O.set s bn c)/\
  (∃b,eA (.map bn) (I i) (.agg (al T)) (O.set s bn c)=.ok .undef (O.set s bn b)/\
  gp .int Θ (.map bc) (I n) (O.set s bn b)=.ok (.tuple [j,I f]) (O.set (O.set s bn b) bc d)/\
  eA (.map bc) (I f) ι (O.set (O.set s bn b) bc d)=.ok .undef e)/\Kp [bn,bc] s e/\e.nx=s.nx/\dx e p a lg {M with now:=jr M.now n T,count:=ib M.count n} bd bn bi bc:=by
 have nd:=h.nd;simp only[me,ip,wn,GZ]at nd;obtain⟨⟨n1,H,n3,G⟩,⟨C,n6,z⟩,⟨y,v⟩,Y,_⟩:=nd;obtain⟨k,i,c,X,W⟩:=h.now.entry (.agg (zr 512)) n;obtain⟨b,x,u⟩:=W (.agg (al T)) _ (ao s bn c);rw[set_set]at x u;have L:ef (O.set s bn b) bc (vS M.count):=h.count.mono (ar _ _ _ _ (ny v));obtain⟨j,f,d,S,Q⟩:=L.entry Θ n;obtain⟨r,w,o⟩:=Q ι _ (ao (O.set s bn b) bc d);rw[set_set]at w o;rw[A3]at u;rw[HF]at o;have l1:=h.lt bn V;have l2:=h.lt bc V;have l:∀q,q≠bn->q≠bc->(O.set (O.set s bn b) bc r).m.g q=s.m.g q:=λq P N=>(ar _ _ _ _ N).trans (ar _ _ _ _ P);refine⟨k,i,c,j,f,d,_,X,⟨b,x,S,w⟩,((Δ _ s).set _ (.inl V) l1).set _ (.inl V) l2,rfl,?_,h.cC.mono (l bd C z),u.mono (ar _ _ _ _ v),h.idle.mono (l bi (ny y) Y),o,h.nd,h.lt,h.lgs⟩;exact(l p H G).trans h.main
def O6 (h:dx Z p a lg M bd bn bi bc){n:Nat}(s:M.bV n){v:K}{T:kh}(j:Sl Z [bn,bc] v 1 (al T))(d:T.length=512):
 Rq0 223 [.ptr p 0,I n,v] Z λx Z'=>x=I 0/\Kp [bn,bc] Z Z'/\Z'.nx=Z.nx/\dx Z' p a lg {M with now:=jr M.now n T,count:=ib M.count n} bd bn bi bc:=by
 refine bE ?_;rw[apk];simp only[cc,ll,ii];refine(xK h n).same ?_;have hlen:=j.len 512 (by simp[d]) J Z;simp only[s,bZ,Al,aD,yU,ii,tw,hlen];have C:R .neq ψ true (ζ 512) (I 512) Z=.ok Θ Z:=rfl;obtain⟨v1,i1,i,v2,i2,nG,s5,a1,⟨rZ,Y,X,W⟩,S,Q,P⟩:=AH (T:=T) (n:=n) h
 have r:∃c off,qL 512 v Z=.ok (.ptr c off) Z/\c≠bn/\∃l t g,Z.m.g c=Φ (.cells l t g)/\off+512<=l.length/\(l.drop off).take 512=al T:=by
  rcases j with⟨_,h⟩|⟨b,off,len,cap,grow,rfl,z,h3,f⟩
  .have:=congrArg List.length h;simp[d]at this
  .have:len=512:=by simp[d]at z;omega
   subst this;rcases f with f|⟨y,h6,l,t,g,w,h8,u⟩
   .cases f
   .refine⟨b,off,?_,λe=>y (by simp[e]),l,t,g,w,J,by simpa using u⟩;have e:qL 512 (.slice b off 512 cap grow) Z=bF (Bool.and (Nat.ble 512 512) (Bool.or (Nat.beq grow 0) (Bool.and (Nat.ble 1 cap) (Nat.ble 512 cap)))) (.ok (.ptr b off) Z) .bad:=rfl;rw[e,aS,gq (by simp only[mZ,xF,nR,md];omega)]
 obtain⟨c,off,N,L,l,t,g,q,o,k⟩:=r;have H:aF 512 (.ptr c off) Z=.ok (.agg (al T)) Z:=by rw[im q o,k]
 have G:aF 512 (.ptr c off) (O.set Z bn i)=.ok (.agg (al T)) (O.set Z bn i):=by rw[im ((ar _ _ _ _ L).trans q) o,k]
 simp only[C,aC,ii,zY,aZ,bk,vr,h.main,kc,io,N,H,a1,aP,Y,X,W,G];exact⟨⟨gt,gt,⟨gt,gt⟩,gt⟩,gt,gt,S,Q,P⟩
end
section
variable {Z Z':O} {p a:Nat} {lg:K} {M:cA} {bd bn bi bc:Nat} {F:δ Nat} {D:aX}
def aey (l:δ Γ):tL l<256^l.length:=by
 have key:∀k (l:δ Γ),l.length=k->tL l<256^k:=by
  intro k
  induction k with
  |zero=>intro l h;have:=sS.1 h;subst this;simp[tL]
  |succ k c=>
   intro l h;have b:l≠[]:=λe=>by subst e;simp at h
   have e:=List.dropLast_concat_getLast b;have h1:=c l.dropLast QO;have h2:=(l.getLast b).toNat_lt;rw[<-e,uQ,WP];omega
 exact key _ l rfl
def EL (l:δ Γ)(h:l.length<=4)(i:Nat):tL (l.take i)<=4611686018427387904:=by
 have h1:=aey (l.take i);have b:(l.take i).length<=4:=OH
 have c:256^(l.take i).length<=256^4:=Nat.pow_le_pow_right J b;omega
def dx.F7 (h:dx Z p a lg M bd bn bi bc)(b:mQ):Kp [p] Z (O.set Z p (ϰ [.ptr a 0,lg,I M.first,I M.aO,.map bd,.map bn,I M.kept.root,I M.kept.used,I M.kept.head,I M.kept.free,I b.root,I b.used,I b.head,I b.free,.map bi,.map bc]))/\
 dx (O.set Z p (ϰ [.ptr a 0,lg,I M.first,I M.aO,.map bd,.map bn,I M.kept.root,I M.kept.used,I M.kept.head,I M.kept.free,I b.root,I b.used,I b.head,I b.free,.map bi,.map bc])) p a lg {M with m:=b} bd bn bi bc:=by
 have nd:=h.nd;simp only[me,ip,wn,GZ]at nd;exact⟨(Δ _ Z).set _ (.inl V) (h.lt p V),ao ..,h.cC.mono (ar _ _ _ _ (ny nd.1.1)),h.now.mono (ar _ _ _ _ (ny nd.1.2.1)),h.idle.mono (ar _ _ _ _ (ny nd.1.2.2.1)),h.count.mono (ar _ _ _ _ (ny nd.1.2.2.2)),h.nd,h.lt,h.lgs⟩
def cA.Cs (M:cA):cA:={M with m:={M.m with used:=M.m.used+1},now:=jr M.now M.m.used mq,count:=ib M.count M.m.used}
def cA.zF (M:cA)(D:aX):cA:={M with m:={M.m with head:=tL ((M.get D M.m.head).take 4),free:=M.m.free-1},idle:=A4 M.idle M.m.head,now:=jr M.now M.m.head mq,count:=ib M.count M.m.head}
def MQ:zr 512=al mq:=rD 512
def Nf (s:O):aR (zr 512) [] s=.ok (.agg (zr 512)) s:=by rw[eK,mi]
def Qn (h:dx Z p a lg M bd bn bi bc)(k:M.aO<=1000000)(j:M.m.used<=1000000)(i:M.m.free<=1000000)(g:M.bT≠0)(l:M.m.head=0):
 Rq0 221 [.ptr p 0] Z λv Z'=>v=.tuple [I M.m.used,μ]/\Kp [p,bn,bc] Z Z'/\Z'.nx=Z.nx/\dx Z' p a lg M.Cs bd bn bi bc:=by
 refine bE ?_;rw[agD];simp only[cc,ll,ii];refine(Bh h k j i).same ?_;have r:R .eql ψ true (I M.bT) μ Z=.ok Θ Z:=by rw[au,cn,jo g]
 have q:R .eql ψ true (I M.m.head) μ Z=.ok ι Z:=by rw[l];rfl
 have o:R .add ν true (I M.m.used) ϖ Z=.ok (ζ (M.m.used+1)) Z:=AU
 have e:bC [.ptr a 0,lg,I M.first,I M.aO,.map bd,.map bn,I M.kept.root,I M.kept.used,I M.kept.head,I M.kept.free,I M.m.root,I M.m.used,I M.m.head,I M.m.free,.map bi,.map bc] 11 [ζ (M.m.used+1)]=[.ptr a 0,lg,I M.first,I M.aO,.map bd,.map bn,I M.kept.root,I M.kept.used,I M.kept.head,I M.kept.free,I M.m.root,ζ (M.m.used+1),I M.m.head,I M.m.free,.map bi,.map bc]:=rfl;obtain⟨c,b⟩:=h.F7 {M.m with used:=M.m.used+1};simp only[r,ll,ii,oE,bk,vr,h.main,Nat.reduceAdd,kc,io,q,ix,o,CY,xz,jR,e];refine⟨⟨rfl,rfl,V⟩,?_⟩;have P:(O.set Z p (ϰ [.ptr a 0,lg,I M.first,I M.aO,.map bd,.map bn,I M.kept.root,I M.kept.used,I M.kept.head,I M.kept.free,I M.m.root,ζ (M.m.used+1),I M.m.head,I M.m.free,.map bi,.map bc])).nx=Z.nx:=rfl;simp only at c b;generalize O.set Z p (ϰ [.ptr a 0,lg,I M.first,I M.aO,.map bd,.map bn,I M.kept.root,I M.kept.used,I M.kept.head,I M.kept.free,I M.m.root,ζ (M.m.used+1),I M.m.head,I M.m.free,.map bi,.map bc])=s2 at*;obtain⟨C,S,L,z,Q,N,G,y,⟨H,d,x,w⟩,u,W,s⟩:=AH (T:=mq) (n:=M.m.used) b;rw[<-MQ]at d;have f:=b.main;simp only[aZ,rb,f,kc,io,Nf,y,aP,DK,d,x,w];refine⟨⟨gt,gt,gt⟩,gt,gt,(c.mono V).trans u V,J,s⟩
end
section
variable {Z Z':O} {p a:Nat} {lg:K} {M:cA} {bd bn bi bc:Nat} {F:δ Nat} {D:aX}
def lq (h:Nat):kh:=be 4 h++List.replicate 508 0
def Ad (h:Nat):(lq h).length=512:=by
 unfold lq;rw[km,kV,F0]
def Pf (h:Nat):bC (zr 512) 0 (al (be 4 h))=al (lq h):=by
 unfold bC lq;rw[bQ,S6,ow,bP,kV,rD]
 congr 1
def cA.drop (M:cA)(n:Nat):cA:={M with m:={M.m with head:=n,free:=M.m.free+1},now:=jr M.now n (lq M.m.head),count:=ib M.count n,idle:=ib M.idle n}
def XT (h:dx Z p a lg M bd bn bi bc){n:Nat}(Q:M.bV n)(h3:M.m.free<=1000000)(h4:M.m.head<=1000000):
 Rq0 212 [.ptr p 0,I n] Z λv Z'=>v=I 0/\Kp [p,bn,bi,bc] Z Z'/\dx Z' p a lg (M.drop n) bd bn bi bc:=by
 refine bE ?_;rw[apv];simp only[cc,ll,ii];refine(xK h n).same ?_;have x:Kp [] Z (O.new Z (ϛ (zr 512))):=(Δ [] Z).new _;have W:(O.new Z (ϛ (zr 512))).m.g Z.nx=Φ (ϛ (zr 512)):=ay _ _;have n2:(O.new Z (ϛ (zr 512))).nx=Z.nx+1:=rfl;simp only[Q,bZ,Al,ll,ii,bW,aP,aZ];generalize O.new Z (ϛ (zr 512))=s2 at*;have G9:cD 512 1 (.ptr Z.nx 0) ν (Φ (I 4)) s2=.ok (.slice Z.nx 0 4 512 0) s2:=rfl;have h2:=h.keep x V;have Ve:=h2.main;simp only[G9,rr,Ve,Nat.reduceAdd,kc,io];refine(KU (n:=M.m.head) (len:=4) (off:=0) (cap:=512) W J (by rw[tU];decide) J J).mono ?_;rintro _ s3 ⟨w,n3,k⟩;rw[Pf]at k;have z:(al (lq M.m.head)).length=512:=by simp[Ad]
 have Et:∀b∈[p,bd,bn,bi,bc],b∉[Z.nx]:=λb S=>by have:=h.lt b S;simp;omega
 have d:=h2.keep w Et;have j:=d.main;obtain⟨v1,i1,r,v2,i2,nG,s7,a1,⟨rZ,a2,a3,a4⟩,a5,a6,y⟩:=AH (T:=lq M.m.head) (n:=n) d;have b6:=aG k z;have Mp:Z.nx≠bn:=λe=>by have:=h.lt bn V;omega
 have Y:aF 512 (.ptr Z.nx 0) (O.set s3 bn r)=.ok (.agg (al (lq M.m.head))) (O.set s3 bn r):=aG ((ar _ _ _ _ Mp).trans k) z;have i:=y.main;have X:∀s,R .add ν true (I M.m.free) ϖ s=.ok (ζ (M.m.free+1)) s:=λs=>AU
 obtain⟨u,c⟩:=y.F7 {M.m with head:=n,free:=M.m.free+1};have C:bC [.ptr a 0,lg,I M.first,I M.aO,.map bd,.map bn,I M.kept.root,I M.kept.used,I M.kept.head,I M.kept.free,I M.m.root,I M.m.used,I M.m.head,I M.m.free,.map bi,.map bc] 12 [I n]=[.ptr a 0,lg,I M.first,I M.aO,.map bd,.map bn,I M.kept.root,I M.kept.used,I M.kept.head,I M.kept.free,I M.m.root,I M.m.used,I n,I M.m.free,.map bi,.map bc]:=rfl;have H:bC [.ptr a 0,lg,I M.first,I M.aO,.map bd,.map bn,I M.kept.root,I M.kept.used,I M.kept.head,I M.kept.free,I M.m.root,I M.m.used,I n,I M.m.free,.map bi,.map bc] 13 [ζ (M.m.free+1)]=[.ptr a 0,lg,I M.first,I M.aO,.map bd,.map bn,I M.kept.root,I M.kept.used,I M.kept.head,I M.kept.free,I M.m.root,I M.m.used,I n,ζ (M.m.free+1),.map bi,.map bc]:=rfl;obtain⟨blk,q,G,o⟩:=IsMap.update (.inl c.idle) n ι;simp only at u c q G o;simp only[rr,j,Nat.reduceAdd,kc,io,b6,Y,a1,GE,DK,a2,a3,a4,oE,i,X,CY,jR,C,ao,H,set_set,fP,q];have nd:=h.nd;simp only[me,ip,wn,GZ]at nd;obtain⟨⟨m1,m2,P,m4⟩,⟨m5,N,m7⟩,⟨L,m9⟩,f,_⟩:=nd;refine⟨⟨gt,gt⟩,gt,⟨gt,gt,⟨gt,gt⟩,gt⟩,gt,⟨rfl,rfl,V⟩,⟨rfl,rfl,V⟩,gt,?_,?_⟩
 .have q1:Kp [p,bn,bi,bc] Z s3:=(x.trans w V).mono V;have q2:=q1.trans a5 V;refine(q2.trans u V).set _ (.inl V) ?_;have:=c.lt bi V;exact this
 .have l:=o c.idle;rw[HF]at l;exact⟨(ar _ _ _ blk P).trans c.main,c.cC.mono (ar _ _ _ blk N),c.now.mono (ar _ _ _ blk L),l,c.count.mono (ar _ _ _ blk (ny f)),h.nd,c.lt,h.lgs⟩
end
section
variable {Z Z':O} {p a:Nat} {lg:K} {M:cA} {bd bn bi bc:Nat} {F:δ Nat} {D:aX}
def Qm (h:dx Z p a lg M bd bn bi bc)(hd:dz Z a F D)(S:D.dead=φ)(h1:M.aO<=1000000)(h2:M.m.used<=1000000)(h3:M.m.free<=1000000)(hf:M.bT≠0)(ZF:0<M.m.free)(h0:M.m.head≠0)
 (hn:M.first+M.m.head<D.aB.length) (hs:(M.get D M.m.head).length=512):
 Rq0 221 [.ptr p 0] Z λv Z'=>v=.tuple [I M.m.head,μ]/\Kp [p,bn,bi,bc] Z Z'/\dx Z' p a lg (M.zF D) bd bn bi bc:=by
 refine bE ?_;rw[agD];simp only[cc,ll,ii];refine(Bh h h1 h2 h3).same ?_;have e1:R .eql ψ true (I M.bT) μ Z=.ok Θ Z:=by rw[au,cn,jo hf]
 have e2:R .eql ψ true (I M.m.head) μ Z=.ok Θ Z:=GW
 simp only[e1,ll,ii,oE,bk,vr,h.main,Nat.reduceAdd,kc,io,e2];refine(M9 h hd S hn hs).mono ?_;rintro _ c ⟨rfl,k7⟩;have Gy:(al (M.get D M.m.head)).length=512:=acp
 simp only[u6];refine pE Gy (bK _) ?_;have L:=k7.page (al (M.get D M.m.head));have g9:(O.set (O.new c (ϛ (zr 512))) c.nx (ϛ (al (M.get D M.m.head)))).m.g c.nx=Φ (ϛ (al (M.get D M.m.head))):=ao ..;have n9:(O.set (O.new c (ϛ (zr 512))) c.nx (ϛ (al (M.get D M.m.head)))).nx=c.nx+1:=rfl;generalize O.set (O.new c (ϛ (zr 512))) c.nx (ϛ (al (M.get D M.m.head)))=f at*;have N:=h.keep L V;have r:=N.main;have G9:cD 512 1 (.ptr c.nx 0) ν (Φ (I 4)) f=.ok (.slice c.nx 0 4 512 0) f:=rfl;have Q:al ((M.get D M.m.head).take 4)=(al (M.get D M.m.head)).take 4:=ZO
 have lP:Sl f [] (.slice c.nx 0 4 512 0) 1 (al ((M.get D M.m.head).take 4)):=.inr ⟨c.nx,0,4,512,0,rfl,by rw[Q,pu];omega,⟨J,.inl rfl⟩,.inr ⟨V,J,_,_,_,g9,J,by rw[tu,Q]⟩⟩;simp only[au,dJ,Al,ll,ii,aZ,G9];have u:((M.get D M.m.head).take 4).length<=4:=OH
 refine(Pj lP J (EL _ u)).same ?_;have e3:∀s,lb .sub .i64 (M.m.free:Int) .i64 1 s=.ok (ζ (M.m.free-1)) s:=λs=>by rw[dY,bt J];congr 2;omega
 obtain⟨H,d⟩:=N.F7 {M.m with head:=tL ((M.get D M.m.head).take 4),free:=M.m.free-1};have W:bC [.ptr a 0,lg,I M.first,I M.aO,.map bd,.map bn,I M.kept.root,I M.kept.used,I M.kept.head,I M.kept.free,I M.m.root,I M.m.used,I M.m.head,I M.m.free,.map bi,.map bc] 12 [I (tL ((M.get D M.m.head).take 4))]=[.ptr a 0,lg,I M.first,I M.aO,.map bd,.map bn,I M.kept.root,I M.kept.used,I M.kept.head,I M.kept.free,I M.m.root,I M.m.used,I (tL ((M.get D M.m.head).take 4)),I M.m.free,.map bi,.map bc]:=rfl;have X:bC [.ptr a 0,lg,I M.first,I M.aO,.map bd,.map bn,I M.kept.root,I M.kept.used,I M.kept.head,I M.kept.free,I M.m.root,I M.m.used,I (tL ((M.get D M.m.head).take 4)),I M.m.free,.map bi,.map bc] 13 [ζ (M.m.free-1)]=[.ptr a 0,lg,I M.first,I M.aO,.map bd,.map bn,I M.kept.root,I M.kept.used,I M.kept.head,I M.kept.free,I M.m.root,I M.m.used,I (tL ((M.get D M.m.head).take 4)),ζ (M.m.free-1),.map bi,.map bc]:=rfl;obtain⟨x,G,C,k⟩:=d.idle.delete (M.m.head:Int);simp only at H d G C k;have nd:=h.nd;simp only[me,ip,wn,GZ]at nd;obtain⟨⟨m1,m2,m3,m4⟩,⟨m5,m6,m7⟩,⟨Y,m9⟩,o,_⟩:=nd;have w:=d.lt bi V;rw[Rv]at k;generalize y:O.set f p (ϰ [.ptr a 0,lg,I M.first,I M.aO,.map bd,.map bn,I M.kept.root,I M.kept.used,I M.kept.head,I M.kept.free,I M.m.root,I M.m.used,I (tL ((M.get D M.m.head).take 4)),ζ (M.m.free-1),.map bi,.map bc])=j at*
 have l:Kp [bi] j x:=by
  rcases C with rfl|⟨blk,rfl⟩
  .exact Δ _ _
  .exact(Δ _ j).set _ (.inl V) w
 have i:∀q∈[p,bd,bn,bi,bc],q≠bi->x.m.g q=j.m.g q:=λq hq jg=>l.keep q (d.lt q hq) acm
 have e:dx x p a lg {M with m:={M.m with head:=tL ((M.get D M.m.head).take 4),free:=M.m.free-1},idle:=A4 M.idle M.m.head} bd bn bi bc:=
  ⟨(i p V m3).trans d.main,d.cC.mono (i bd V m6),d.now.mono (i bn V Y),k,d.count.mono (i bc V (ny o)),h.nd,λb hb=>ov (d.lt b hb) l.nx,h.lgs⟩
 obtain⟨v1,i1,oU,v2,i2,nG,dA,a1,⟨rZ,P,a3,a4⟩,a5,a6,a7⟩:=AH (T:=mq) (n:=M.m.head) e;rw[<-MQ]at P;have z:=e.main;simp only[rr,r,Nat.reduceAdd,kc,io,au,e3,jR,W,ao,X,set_set,y,fP,G,GE,z,Nf,a1,DK,P,a3,a4];have kA:Kp [p,bn,bi,bc] Z j:=(L.mono V).trans H V;have kB:=kA.trans l V;exact⟨⟨rfl,rfl,V⟩,⟨rfl,rfl,V⟩,⟨⟨gt,gt⟩,gt⟩,gt,⟨gt,gt,gt⟩,gt,gt,kB.trans a5 V,a7⟩
end
section
variable {Z Z':O} {p a:Nat} {lg:K} {M:cA} {bd bn bi bc:Nat} {F:δ Nat} {D:aX}
def vf (b:dz Z a F D):Rq0 111 [.ptr a 0] Z λv Z'=>v=ζ (D.aB.length/4)/\Z'=Z:=by
 refine bE ?_;rw[aqP];refine(zl b).same ?_;have c:=(show D.aB.length<=65536 from by obtain⟨_,_,_,_,_,_,_,h⟩:=b;exact h.size)
 have e:R .quo ν true (I D.aB.length) (I 4) Z=.ok (ζ (D.aB.length/4)) Z:=by
  have f:R .quo ν true (I D.aB.length) (I 4) Z=.ok (I (IntKind.i64.wrap (Int.tdiv D.aB.length 4))) Z:=rfl;have d:Int.tdiv (D.aB.length:Int) 4=((D.aB.length/4:Nat):Int):=rfl;rw[f,d,bt J]
 rw[e,af];exact⟨rfl,rfl⟩
def dZ (base:Nat):kh:=[98,117,116,116,101,114,121,49]++be 8 base++List.replicate 496 0
def yz (base:Nat):(dZ base).length=512:=by
 unfold dZ;simp only[km,kV,F0,lx,IR]
def aX.head (D:aX)(base:Nat):Int×aX:=if (D.write 0 (dZ base)).1=0 then (D.write 0 (dZ base)).2.flush else D.write 0 (dZ base)
def NR (W:dV Z)(x:dz Z a F D)(hw:D.waits.length<90000000){base:Nat}(j:base<9223372036854775808):Rq0 126 [.ptr a 0,I base] Z λv Z'=>v=I (D.head base).1/\zG a F Z (D.head base).2 Z':=by
 refine bE ?_;rw[aqF];have T:Kp [] Z (O.new Z (ϛ (zr 512))):=(Δ [] Z).new _;have Y:(O.new Z (ϛ (zr 512))).m.g Z.nx=Φ (ϛ (zr 512)):=ay _ _;have n1:(O.new Z (ϛ (zr 512))).nx=Z.nx+1:=rfl;rw[bW,aP];generalize O.new Z (ϛ (zr 512))=s1 at*;have G9:∀s,cD 512 1 (.ptr Z.nx 0) ν ν s=.ok (.slice Z.nx 0 512 512 0) s:=λs=>rfl
 have f:gL true 1 (.slice Z.nx 0 512 512 0) (.str [98,117,116,116,101,114,121,49]) s1=.ok (I 8) (O.set s1 Z.nx (ϛ (bC (zr 512) 0 (al [98,117,116,116,101,114,121,49])))):=by
  have e:gL true 1 (.slice Z.nx 0 512 512 0) (.str [98,117,116,116,101,114,121,49]) s1=(match s1.m.g Z.nx with
   |some (.cells s ty g)=>Option.rec (Option.rec .bad (λs'=>Ar .i64 ⟨s1.m.put Z.nx (Φ (.cells s' ty g)),s1.nx⟩ 8) (Du s 0 (al [98,117,116,116,101,114,121,49]) (0+512*0))) (λs'=>Ar .i64 ⟨s1.m.put Z.nx (Φ (.cells s' ty g)),s1.nx⟩ 8) (eB s 0 (al [98,117,116,116,101,114,121,49]))
   |_=>.bad):=rfl
  rw[e,Y];have r:eB (zr 512) 0 (al [98,117,116,116,101,114,121,49])=Φ (bC (zr 512) 0 (al [98,117,116,116,101,114,121,49])):=by unfold eB;rw[gq (by rw[tU];decide)];rfl
  dsimp only;rw[r];rfl
 have u:bC (zr 512) 0 (al [98,117,116,116,101,114,121,49])=al [98,117,116,116,101,114,121,49]++al (List.replicate 504 0):=by
  have e:zr 512=al (List.replicate 8 0)++al (List.replicate 504 0):=by rw[rD,<-bQ,List.replicate_append_replicate]
  rw[e];rfl
 rw[u]at f;have l:∀s,cD 512 1 (.ptr Z.nx 0) (Φ (I 8)) (Φ (I 16)) s=.ok (.slice Z.nx 8 8 504 0) s:=λs=>rfl;simp only[G9,af,f,aP,l];have S:Kp [] Z (O.set s1 Z.nx (ϛ (al [98,117,116,116,101,114,121,49]++al (List.replicate 504 0)))):=T.set _ (.inr (hI _)) J;have X:(O.set s1 Z.nx (ϛ (al [98,117,116,116,101,114,121,49]++al (List.replicate 504 0)))).m.g Z.nx=Φ (ϛ (al [98,117,116,116,101,114,121,49]++al (List.replicate 504 0))):=ao ..;have n2:(O.set s1 Z.nx (ϛ (al [98,117,116,116,101,114,121,49]++al (List.replicate 504 0)))).nx=s1.nx:=rfl;generalize O.set s1 Z.nx (ϛ (al [98,117,116,116,101,114,121,49]++al (List.replicate 504 0)))=s2 at*;refine(KU (n:=base) (len:=8) (off:=8) (cap:=504) X J V J j).mono ?_;rintro _ H ⟨Q,n3,y⟩
 have G:bC (al [98,117,116,116,101,114,121,49]++al (List.replicate 504 0)) 8 (al (be 8 base))=al (dZ base):=by
  have e:=rO (al [98,117,116,116,101,114,121,49]) (al (List.replicate 504 0)) (al (be 8 base));have e2:(al [98,117,116,116,101,114,121,49]).length=8:=rfl
  have r:(al (List.replicate 504 0)).drop (al (be 8 base)).length=al (List.replicate 496 0):=by
   unfold al;rw[<-JO,aNP,so,kV]
  rw[e2,r]at e;rw[e];unfold dZ;rw[bQ,bQ,we]
 rw[G]at y;have hl:=yz base;have Qx:(al (dZ base)).length=512:=afG
 have c:=S.trans Q V;have N:Sl H F (.slice Z.nx 0 512 512 0) 1 (al (dZ base)):=.inr ⟨Z.nx,0,512,512,0,rfl,J,⟨hI _,.inl rfl⟩,.inr ⟨λh=>by have:=x.lt _ h;omega,J,_,_,_,y,J,QN⟩⟩;refine(xH (i:=0) (x.keep c V) (c.fresh W) J N hl).mono ?_;rintro _ s4 ⟨rfl,k,F',z,L⟩;have w:∀b∈F',b∈F\/Z.nx<=b:=λb j=>(L b j).imp id λh=>by have:=c.nx;omega
 unfold aX.head
 by_cases d:(D.write 0 (dZ base)).1=0
 .rw[gq d];obtain⟨z1,C,z3⟩:=AS d;simp only[d,au,dJ,Al,ll,ii];refine(yC z (by rw[C];simp;omega)).mono ?_;rintro _ s5 ⟨rfl,P,F2,d5,Dr⟩;exact⟨rfl,((c.mono (λq o=>by simp at o)).trans k (lk)).trans P w,F2,d5,λb j=>(Dr b j).elim (w b) λh=>.inr (by have:=c.nx;have:=k.nx;omega)⟩
 .rw[B d];simp only[au,dJ,d,FS,ra,xl,ix];exact⟨gt,(c.mono (λq o=>by simp at o)).trans k (lk),F',z,w⟩
end
