import Derived.Test.YtomffjeofpafnaaGreatDoorRingB
namespace Lim
open Go
noncomputable section
set_option linter.defProp false
set_option maxRecDepth 100000
section
variable {st st':St}
def ph (l:List UInt8):Nat:=l.foldl (λa b=>a*256+b.toNat) 0
def tF (l:List UInt8)(b:UInt8):ph (l++[b])=ph l*256+b.toNat:=by simp[ph]
def be (k n:Nat):List UInt8:=(le k n).reverse
def iC (k n:Nat):(be k n).length=k:=by simp[be,iJ]
def zJ (k n:Nat):be (k+1) n=UInt8.ofNat (n/256^k%256)::be k n:=by simp[be,le]
def R4 (k:Nat):∀n c:Nat,(be k n).foldl (λa b=>a*256+b.toNat) c=c*256^k+n%256^k:=by
 induction k with
 |zero=>intro n c;simp[be,le,Nat.mod_one]
 |succ k d=>
  intro n c;rw[zJ,List.foldl_cons,d];have f:(UInt8.ofNat (n/256^k%256)).toNat=n/256^k%256:=wb
  have e:n%256^(k+1)=n%256^k+256^k*(n/256^k%256):=by rw[aKt,Nat.mod_mul]
  rw[f,e,aKt,aIV,Nat.mul_assoc,aJO 256 (256^k),aJO (n/256^k%256)];omega
def vU (k n:Nat)(h:n<256^k):ph (be k n)=n:=by
 unfold ph;rw[R4,Nat.zero_mul,aHN,aJC h]
def Da (a m k:Nat)(h:a<2^k)(b:a+m*2^k<9223372036854775808)(d:Option kK)(c:Bool)(st:St):aj .or d c (I ((m*2^k:Nat):Int)) (I a) st=.ok (I ((m*2^k+a:Nat):Int)) st:=by
 have e:aj .or d c (I ((m*2^k:Nat):Int)) (I a) st=(match kD .or .i64 ((m*2^k:Nat):Int) (a:Int)with|some r=>.ok (.int .i64 r) st|none=>.bad):=rfl
 have f:kD .or .i64 ((m*2^k:Nat):Int) (a:Int)=kD .or .i64 (a:Int) ((m*2^k:Nat):Int):=by
  show some (IntKind.i64.wrap ((BitVec.ofInt 64 _|||BitVec.ofInt 64 _).toNat:Int))=some (IntKind.i64.wrap ((BitVec.ofInt 64 _|||BitVec.ofInt 64 _).toNat:Int));rw[BitVec.or_comm]
 rw[e,f,WH a m k h b,aKL]
def qH {X:List Nat}{v:CV}{l:List UInt8}(h:Sl st X v 1 (ai l))(q:l.length<=1000)(c:∀i,ph (l.take i)<=4611686018427387904):R 71 [v] st λx st'=>x=I (ph l)/\st'=st:=by
 refine bK ?_;rw[w71];have hlen:=h.len l.length wb uM st;show us _ _;rw[hlen,af];show df _ _ _;simp only[aK,aL];refine bG (λfu b s=>∃i,fu+i=l.length/\b=[I (ph (l.take i)),v,I l.length,I i]/\s=st) ?_ (n:=l.length) ⟨0,rfl,rfl,rfl⟩;rintro fu b s k ⟨i,hi,rfl,rfl⟩ next;simp only[aK,aL]
 by_cases hc:i<l.length
 .have a1:aj .lss none false (I i) (I l.length) s=.ok (.bool true) s:=by rw[av,c8,aHQ uM]
  have r:=c i;have p:=c (i+1);have a:l.take (i+1)=l.take i++[l[i]]:=by rw[aIa hc]
  rw[a,tF]at p;have d:(l[i]).toNat<256:=(l[i]).toNat_lt
  have o:aj .shl none true (I (ph (l.take i))) (.int .u64 8) s=.ok (I ((ph (l.take i)*2^8:Nat):Int)) s:=by
   have e:aj .shl none true (I (ph (l.take i))) (.int .u64 8) s=.ok (I (IntKind.i64.wrap ((ph (l.take i):Int)*2^8))) s:=rfl;rw[e,bA uM];simp
  have m:dw (.toInt .i64) (bP l[i]) s=.ok (I (l[i]).toNat) s:=Gh _ uM _ _;have j:aj .or none false (I ((ph (l.take i)*2^8:Nat):Int)) (I (l[i]).toNat) s=.ok (I ((ph (l.take i)*2^8+(l[i]).toNat:Nat):Int)) s:=Da _ _ _ uM uM _ _ _;have g:aj .add none true (I i) (.int .i64 1) s=.ok (I ((i+1:Nat):Int)) s:=F7
  simp only[a1,af,ag,aIj,o];refine h.idx I2 _ ?_;have f:(ai l)[i]'(by simpa using hc)=bP l[i]:=ack
  rw[f,m,af,j,af,g,af];exact next (fu-1) _ _ uM ⟨i+1,uM,by rw[a,tF],rfl⟩
 .have a1:aj .lss none false (I i) (I l.length) s=.ok (.bool false) s:=by rw[av,c8,aHL uM]
  simp only[a1,af,ag,aHH,aHV];rw[aHS uM];exact⟨rfl,afp⟩
def Db (L T:List CV)(p:Nat)(x:CV)(h:p+1+T.length<=L.length):bz (bz L (p+1) T) p [x]=bz L p (x::T):=by
 unfold bz
 have c:(L.take (p+1)++(T++L.drop (p+1+T.length))).take p=L.take p:=by
  rw[List.take_append_of_le_length TP,aJc,aIC uM]
 have b:(L.take (p+1)++(T++L.drop (p+1+T.length))).drop (p+1)=T++L.drop (p+1+T.length):=by
  rw[List.drop_append,aIp TP,aHZ,aIC uM,Nat.sub_self,aIn,aIm]
 simp only[aIg,aJB,aHN];rw[c,b];have a:p+(T.length+1)=p+1+T.length:=uM
 rw[a];rfl
def AE (L:List CV)(p:Nat):bz L p []=L:=by unfold bz;simp
def JI {b off len cap n:Nat}{L:List CV}{t:TypeId}{g:Bool}(j:st.m.g b=some (.cells L t g))(D:b<st.nx)(C:off+len<=L.length)(d:len<=8)(A:n<9223372036854775808):
 R 135 [.slice b off len cap 0,I n] st λx st'=>Kp [b] st st'/\st'.nx=st.nx/\st'.m.g b=some (.cells (bz L off (ai (be len n))) t g):=by
 refine bK ?_;rw[ane];simp only[cM,oM,af,aK,aL]
 refine bG (λfu c s=>∃i,fu+i=len/\c=[.slice b off len cap 0,I n,I len,I i]/\Kp [b] st s/\s.nx=st.nx/\s.m.g b=some (.cells (bz L (off+len-i) (ai (be i n))) t g)) ?_ (n:=len) ⟨0,rfl,rfl,Kp.refl _ _,rfl,by
  have:ai (be 0 n)=[]:=rfl;rw[this,AE];exact j⟩
 rintro fu c s k ⟨i,hi,rfl,e,f,a⟩ next;simp only[aK,aL]
 by_cases B:i<len
 .have a1:aj .lss none false (I i) (I len) s=.ok (.bool true) s:=by rw[av,c8,aHQ uM]
  have w:aj .sub none true (I len) (.int .i64 1) s=.ok (I ((len-1:Nat):Int)) s:=Gd
  have v:aj .sub none false (I ((len-1:Nat):Int)) (I i) s=.ok (I ((len-1-i:Nat):Int)) s:=Gd
  have u:aj .mul none true (.int .i64 8) (I i) s=.ok (I ((8*i:Nat):Int)) s:=Ww
  have r:cV 1 (.slice b off len cap 0) (I ((len-1-i:Nat):Int)) s=.ok (.ptr b (off+(len-1-i)*1)) s:=gp uM (.inl rfl) s;have q:∀s,aj .add none true (I i) (.int .i64 1) s=.ok (I ((i+1:Nat):Int)) s:=λs=>F7
  simp only[a1,af,ag,aIj,oM,w,v,u,Eg _ _ (show i<8 from uM),MX,Hw,r,aH,a,aS,q];have p:off+(len-1-i)*1=off+len-(i+1):=uM
  have o:off+len-i=off+len-(i+1)+1:=uM
  have te:=iC i n
  have l:bz (bz L (off+len-i) (ai (be i n))) (off+len-(i+1)) [bP (UInt8.ofNat (n/256^i%256))]=bz L (off+len-(i+1)) (ai (be (i+1) n)):=by
   rw[o,Db _ _ _ _ aea,zJ];rfl
  have y:(bP (UInt8.ofNat (n/256^i%256))).cK=[bP (UInt8.ofNat (n/256^i%256))]:=rfl;rw[p,y,l];refine⟨⟨rfl,rfl,adr⟩,next (fu-1) _ _ uM ⟨i+1,uM,rfl,e.set _ (.inl wb) uM,f,an _ _ _⟩⟩
 .have a1:aj .lss none false (I i) (I len) s=.ok (.bool false) s:=by rw[av,c8,aHL uM]
  simp only[a1,af,ag,aHH,aHV];have z:i=len:=uM
  subst z;rw[aJh]at a;exact⟨e,f,a⟩
end
structure iZ where
 root:Nat
 used:Nat
 head:Nat
 free:Nat
structure bR where
 first:Nat
 aE:Nat
 dirty:List (Nat×iT)
 now:List (Nat×iT)
 kept:iZ
 m:iZ
 idle:List Nat
 count:List Nat
def gX (l:List (Nat×iT)):MZ:=l.map λp:Nat×iT=>(Int.ofNat p.1,CV.agg (ai p.2))
def uz (l:List Nat):MZ:=l.map λn:Nat=>(Int.ofNat n,CV.bool true)
def cZ (l:List (Nat×iT))(n:Nat):Option iT:=match l with|[]=>none|p::r=>if n=p.1 then some p.2 else cZ r n
def ix (l:List (Nat×iT))(n:Nat)(s:iT):List (Nat×iT):=match l with|[]=>[(n,s)]|p::r=>if n=p.1 then (n,s)::r else p::ix r n s
def fX (l:List Nat)(n:Nat):List Nat:=match l with|[]=>[n]|p::r=>if n=p then p::r else p::fX r n
def Af (l:List Nat)(n:Nat):List Nat:=match l with|[]=>[]|p::r=>if n=p then r else p::Af r n
def qx (l:List (Nat×iT))(n:Nat):jE (gX l) n=(cZ l n).map λs=>.agg (ai s):=by
 induction l with
 |nil=>rfl
 |cons p r b=>
  show(if (n:Int)=(p.1:Int)then some (CV.agg (ai p.2))else jE (gX r) n)=_;simp only[cZ]
  by_cases h:n=p.1
  .rw[aHP h,aHP uM];rfl
  .rw[aHM h,aHM uM];exact b
def wy (l:List (Nat×iT))(n:Nat)(s:iT):nv (gX l) n (.agg (ai s))=gX (ix l n s):=by
 induction l with
 |nil=>rfl
 |cons p r b=>
  show(if (n:Int)=(p.1:Int)then ((n:Int),CV.agg (ai s))::gX r else ((p.1:Int),CV.agg (ai p.2))::nv (gX r) n (.agg (ai s)))=_;simp only[ix]
  by_cases h:n=p.1
  .rw[aHP h,aHP uM];rfl
  .rw[aHM h,aHM uM,b];rfl
def Ad (l:List Nat)(n:Nat):jE (uz l) n=if n∈l then some (.bool true)else none:=by
 induction l with
 |nil=>rfl
 |cons p r b=>
  show(if (n:Int)=(p:Int)then some (CV.bool true)else jE (uz r) n)=_
  by_cases h:n=p
  .rw[aHP uM,aHP aaX]
  .rw[aHM uM,b];simp[h]
def wx (l:List Nat)(n:Nat):nv (uz l) n (.bool true)=uz (fX l n):=by
 induction l with
 |nil=>rfl
 |cons p r b=>
  show(if (n:Int)=(p:Int)then ((n:Int),CV.bool true)::uz r else ((p:Int),CV.bool true)::nv (uz r) n (.bool true))=_;simp only[fX]
  by_cases h:n=p
  .rw[aHP h,aHP uM,h];rfl
  .rw[aHM h,aHM uM,b];rfl
def PG (l:List Nat)(n:Nat):rA (uz l) n=uz (Af l n):=by
 induction l with
 |nil=>rfl
 |cons p r b=>
  show(if (n:Int)=(p:Int)then uz r else ((p:Int),CV.bool true)::rA (uz r) n)=_;simp only[Af]
  by_cases h:n=p
  .rw[aHP h,aHP uM]
  .rw[aHM h,aHM uM,b];rfl
structure bZ (st:St)(p a:Nat)(lg:CV)(M:bR)(bd bn bi bc:Nat):Prop where
 main:st.m.g p=some (.cells [.ptr a 0,lg,I M.first,I M.aE,.map bd,.map bn,I M.kept.root,I M.kept.used,I M.kept.head,I M.kept.free,I M.m.root,I M.m.used,I M.m.head,I M.m.free,.map bi,.map bc] 158 false)
 dirty:IsMap st bd (gX M.dirty)
 now:dd st bn (gX M.now)
 idle:dd st bi (uz M.idle)
 count:dd st bc (uz M.count)
 nd:[p,bd,bn,bi,bc].Nodup
 lt:∀b∈[p,bd,bn,bi,bc],b<st.nx
 lgs:lg.cK=[lg]/\cF lg=true/\lg.isAny=false
section
variable {st st':St} {p a:Nat} {lg:CV} {M:bR} {bd bn bi bc:Nat}
def bZ.keep {X:List Nat}(h:bZ st p a lg M bd bn bi bc)(d:Kp X st st')(e:∀b∈[p,bd,bn,bi,bc],b∉X):bZ st' p a lg M bd bn bi bc:=by
 have k:=λb c=>d.keep b (h.lt b c) (e b c);exact⟨(k p wb).trans h.main,h.dirty.mono (k bd wb),h.now.mono (k bn wb),h.idle.mono (k bi wb),h.count.mono (k bc wb),h.nd,λb c=>aId (h.lt b c) d.nx,h.lgs⟩
def bR.cD (M:bR):Int:=(M.aE:Int)-M.m.used+M.m.free
def bR.bW (M:bR)(n:Nat):Prop:=0<n/\n<M.m.used/\n∉M.idle
instance (M:bR) (n:Nat):Decidable (M.bW n):=by unfold bR.bW;infer_instance
def Av (h:bZ st p a lg M bd bn bi bc)(f:M.aE<=1000000)(e:M.m.used<=1000000)(d:M.m.free<=1000000):R 62 [.ptr p 0] st λv st'=>v=I M.cD/\st'=st:=by
 refine bK ?_;rw[w62];have c:IntKind.i64.wrap ((M.aE:Int)-M.m.used)=(M.aE:Int)-M.m.used:=bA uM;have b:IntKind.i64.wrap ((M.aE:Int)-M.m.used+M.m.free)=M.cD:=bA uM;simp[h.main,c,b]
def Um (h:bZ st p a lg M bd bn bi bc):R 54 [.ptr p 0] st λv st'=>v=I M.m.root/\st'=st:=by
 refine bK ?_;rw[w54];simp[sy,h.main]
def wi (h:bZ st p a lg M bd bn bi bc)(n:Nat):R 101 [.ptr p 0,I n] st λv st'=>v=.bool (decide (M.bW n))/\st'=st:=by
 refine bK ?_;rw[anH];have b:=IsMap.lookup (.inl h.idle) (.bool false) false n st rfl;rw[aHM xI,Ad]at b;unfold bR.bW
 by_cases c:0<n
 .by_cases h2:n<M.m.used
  .by_cases h3:n∈M.idle
   .rw[aHP h3]at b;simp[c,h2,h3,iy,jV,h.main,b]
   .rw[aHM h3]at b;simp[c,h2,h3,iy,jV,h.main,b]
  .simp[c,h2,iy,jV,h.main]
 .have:n=0:=by omega
  subst this;simp[iy,jV]
def Jr (h:bZ st p a lg M bd bn bi bc)(n:Nat)(f:n=0\/M.bW n):R 49 [.ptr p 0,I n] st λv st'=>v=I 0/\Kp [p] st st'/\st'.nx=st.nx/\bZ st' p a lg {M with m:={M.m with root:=n}} bd bn bi bc:=by
 refine bK ?_;rw[w49];have nd:=h.nd;simp only[aHX,aHJ,aIo,aJj,aJf]at nd
 have b:BU 1 10 0 (.ptr p 0) (I n) st λs2=>(I 0=I 0/\Kp [p] st s2/\s2.nx=st.nx/\bZ s2 p a lg {M with m:={M.m with root:=n}} bd bn bi bc):=by
  have e:∀r,bz [CV.ptr a 0,lg,I M.first,I M.aE,.map bd,.map bn,I M.kept.root,I M.kept.used,I M.kept.head,I M.kept.free,I r,I M.m.used,I M.m.head,I M.m.free,.map bi,.map bc] 10 [I n]=[CV.ptr a 0,lg,I M.first,I M.aE,.map bd,.map bn,I M.kept.root,I M.kept.used,I M.kept.head,I M.kept.free,I n,I M.m.used,I M.m.head,I M.m.free,.map bi,.map bc]:=λ_=>rfl;simp only[BU,bj,ah,af,aH,h.main,aS,ji,aHN,aIv,e];have c:=h.lt p wb;have g:Kp [p] st (St.set st p (.cells [CV.ptr a 0,lg,I M.first,I M.aE,.map bd,.map bn,I M.kept.root,I M.kept.used,I M.kept.head,I M.kept.free,I n,I M.m.used,I M.m.head,I M.m.free,.map bi,.map bc] 158 false)):=(Kp.refl _ st).set _ (.inl wb) c;refine⟨⟨rfl,rfl,wb⟩,afp,g,rfl,an _ _ _,h.dirty.mono (ak _ _ _ _ (aIG nd.1.1)),h.now.mono (ak _ _ _ _ (aIG nd.1.2.1)),h.idle.mono (ak _ _ _ _ (aIG nd.1.2.2.1)),h.count.mono (ak _ _ _ _ (aIG nd.1.2.2.2)),h.nd,h.lt,h.lgs⟩
 by_cases d:n=0
 .subst d;simp
  simpa using b
 .have hu:=f.resolve_left d;have i:¬(n:Int)=0:=by omega
  simp[d];refine(wi h n).same ?_;simp[hu]
  simpa using b
end
section
variable {st st':St} {p a:Nat} {lg:CV} {M:bR} {bd bn bi bc:Nat} {F:List Nat} {D:aU}
def bR.get (M:bR)(D:aU)(n:Nat):iT:=match cZ M.now n with|some s=>s|none=>match cZ M.dirty n with|some s=>s|none=>D.cur (M.first+n)
def EJ (s:iT)(h:s.length=512):bz (zr 512) 0 (ai s)=ai s:=dU _ _ (by rw[bF,h];exact List.length_replicate.symm)
def Qg:bz (zr 512) 0 (zr 512)=zr 512:=dU _ _ rfl
def jJ:(zr 512).length=512:=aIF
def vh:bh (zr 512)=true:=by rw[oz];exact bu _
def gW {s:St}{T:List CV}{K:CV->St->Prop}(b:T.length=512)(c:bh T=true)(d:K (.ptr s.nx 0) (St.set (St.new s (.cells (zr 512) 173 false)) s.nx (.cells T 173 false))):
 upon (dp 173 (zr 512) s) λx s2=>upon (aQ 512 x (.agg T) s2) λ_ s3=>K x s3:=by
 rw[cz,aP,aH,au];have:bz (zr 512) 0 T=T:=dU _ _ (by rw[b];exact jJ.symm);rw[aS,aT,this];exact⟨⟨b,c,acE⟩,d⟩
def Kp.page {X:List Nat}{s s2:St}(h:Kp X s s2)(T:List CV):Kp X s (St.set (St.new s2 (.cells (zr 512) 173 false)) s2.nx (.cells T 173 false)):=(h.new _).set _ (.inr h.nx) wb
def zE (h:bZ st p a lg M bd bn bi bc)(A:cQ st a F D)(G:D.dead=false){n:Nat}(hn:M.first+n<D.aq.length)(y:(M.get D n).length=512):
 R 123 [.ptr p 0,I n] st λv st'=>v=.tuple [.agg (ai (M.get D n)),I 0]/\Kp [] st st':=by
 refine bK ?_;rw[adV];have H:=(show D.aq.length<=65536 from by obtain⟨_,_,_,_,_,_,_,h⟩:=A;exact h.size);have l:Kp [] st (St.new st (.cells (zr 512) 173 false)):=(Kp.refl [] st).new _;have g1:(St.new st (.cells (zr 512) 173 false)).m.g st.nx=some (.cells (zr 512) 173 false):=au _ _;have Z:(St.new st (.cells (zr 512) 173 false)).nx=st.nx+1:=rfl;rw[cz,aP];generalize St.new st (.cells (zr 512) 173 false)=s1 at*;have h1:=h.keep l wb;have q:=IsMap.lookup (.inl h1.now) (.agg (zr 512)) true n s1 rfl;rw[aHP rfl,qx]at q;simp only[eQ,bj,ah,af,az,h1.main,ar,aHN,aHI,aHG,aw,q,aD,aI]
 have e:∀(s:St) (T:iT),T.length=512->T=M.get D n->Kp [] st s->s.m.g st.nx=some (.cells (zr 512) 173 false)->st.nx<s.nx->
  upon (aQ 512 (.ptr st.nx 0) (.agg (ai T)) s) λ_ u=>us (aJ 512 (.ptr st.nx 0) u) λE=>(CV.tuple [E,I 0]=.tuple [.agg (ai (M.get D n)),I 0]/\Kp [] st u):=by
  intro s T hT c J K o;rw[aH,K,aS,aT,EJ T hT];have d:(ai T).length=512:=abn
  refine⟨⟨d,bu _,acE⟩,?_⟩;rw[aM (n:=512) (an s st.nx (.cells (ai T) 173 false)) d,af];exact⟨by rw[c],J.set _ (.inr (aHK _)) o⟩
 cases hp:cZ M.now n with
 |some T=>
  have c:T=M.get D n:=by unfold bR.get;rw[hp]
  have hT:T.length=512:=by rw[c];exact y
  have d:(ai T).length=512:=abn
  simp only[aIZ,aJg,aKj];refine gW d (bu _) ?_;rw[ag,aHP rfl,aM (n:=512) (an (St.new s1 (.cells (zr 512) 173 false)) s1.nx (.cells (ai T) 173 false)) d,af];exact e _ T hT c (l.page _) aau zS
 |none=>
  simp only[aKE,Option.getD_none,aKk];refine gW jJ vh ?_;have k:=l.page (zr 512);have g3:(St.set (St.new s1 (.cells (zr 512) 173 false)) s1.nx (.cells (zr 512) 173 false)).m.g st.nx=some (.cells (zr 512) 173 false):=aau
  have Y:(St.set (St.new s1 (.cells (zr 512) 173 false)) s1.nx (.cells (zr 512) 173 false)).nx=s1.nx+1:=rfl;generalize St.set (St.new s1 (.cells (zr 512) 173 false)) s1.nx (.cells (zr 512) 173 false)=s3 at*;have B:=h.keep k wb;have C:=IsMap.lookup B.dirty (.agg (zr 512)) true n s3 rfl;rw[aHP rfl,qx]at C;simp only[ag,aHH,aHV,af,B.main,ar,aHI,aHG,aw,C,aD,aI];cases z:cZ M.dirty n with
  |some T=>
   have c:T=M.get D n:=by unfold bR.get;rw[hp,z]
   have hT:T.length=512:=by rw[c];exact y
   have d:(ai T).length=512:=abn
   simp only[aIZ,aJg,aKj];refine gW d (bu _) ?_;rw[aHP trivial,aM (n:=512) (an (St.new s3 (.cells (zr 512) 173 false)) s3.nx (.cells (ai T) 173 false)) d,af];exact e _ T hT c (k.page _) Yu zS
  |none=>
   have c:D.cur (M.first+n)=M.get D n:=by unfold bR.get;rw[hp,z]
   simp only[aKE,Option.getD_none,aKk];refine gW jJ vh ?_;have j:=k.page (zr 512);have O:(St.set (St.new s3 (.cells (zr 512) 173 false)) s3.nx (.cells (zr 512) 173 false)).m.g st.nx=some (.cells (zr 512) 173 false):=Yu
   have X:(St.set (St.new s3 (.cells (zr 512) 173 false)) s3.nx (.cells (zr 512) 173 false)).nx=s3.nx+1:=rfl;generalize St.set (St.new s3 (.cells (zr 512) 173 false)) s3.nx (.cells (zr 512) 173 false)=r at*;have L:=h.keep j wb;have Q:=A.keep j wb;have S:aj .add none false (I M.first) (I n) r=.ok (I ((M.first+n:Nat):Int)) r:=F7
   simp only[aHH,aHV,bD,af,L.main,ar,aHI,aHG,aw,S];refine(wA Q ((M.first+n:Nat):Int)).mono ?_;intro x f w
   have P:D.read ((M.first+n:Nat):Int)=(0,D.cur (M.first+n)):=by
    unfold aU.read;rw[aHM (by simp[G]),aHM uM,aJS]
   rw[P,aHP rfl]at w;obtain⟨i,hl,b,rfl,N,b1,b2⟩:=w;have W:=i.nx;have V:pM 512 (.slice b 0 512 512 1) f=.ok (.ptr b 0) f:=rfl;have U:(ai (D.cur (M.first+n))).length=512:=adm
   simp only[aD,aI,af,av,ff,aIS,aIb,ag,aHH,aHV,V,aM N U];refine⟨⟨afp,afp,afp⟩,afp,?_⟩;exact e f _ hl c (j.trans i wb) ((i.keep _ uM wb).trans O) uM
end
section
variable {st st':St} {p a:Nat} {lg:CV} {M:bR} {bd bn bi bc:Nat} {F:List Nat} {D:aU}
def P5 (h:bZ st p a lg M bd bn bi bc)(z:cQ st a F D)(q:D.dead=false){n:Nat}(w:M.bW n)(y:M.first+n<D.aq.length)(hs:(M.get D n).length=512):
 R 137 [.ptr p 0,I n] st λv st'=>Got (M.get D n) st v st':=by
 refine bK ?_;rw[anb];simp only[cc,af,ag,aHH,aHV];refine(wi h n).same ?_;simp only[w,aIS,cR,af,aIb,ag,aHH,aHV];refine(zE h z q y hs).mono ?_;rintro _ s2 ⟨rfl,s⟩;have e:(ai (M.get D n)).length=512:=aco
 simp only[aD,aI,af];refine gW e (bu _) ?_;have c:=s.page (ai (M.get D n));have B:(St.set (St.new s2 (.cells (zr 512) 173 false)) s2.nx (.cells (ai (M.get D n)) 173 false)).m.g s2.nx=some (.cells (ai (M.get D n)) 173 false):=an _ _ _;have J:(St.set (St.new s2 (.cells (zr 512) 173 false)) s2.nx (.cells (ai (M.get D n)) 173 false)).nx=s2.nx+1:=rfl;generalize St.set (St.new s2 (.cells (zr 512) 173 false)) s2.nx (.cells (ai (M.get D n)) 173 false)=s4 at*;have d:bT 512 1 (.ptr s2.nx 0) none none s4=.ok (.slice s2.nx 0 512 512 0) s4:=rfl;simp only[av,ff,aIS,aIb,af,ag,aHH,aHV,d];have u:Sl s4 [] (.slice s2.nx 0 512 512 0) 1 (ai (M.get D n)):=.inr ⟨s2.nx,0,512,512,0,rfl,uM,⟨aHK _,.inl rfl⟩,.inr ⟨wb,uM,_,_,_,B,uM,Yv⟩⟩;refine(xq u uM).mono ?_;rintro x C ⟨F',o,l,k,H⟩;obtain⟨b,r,j,G,i,E,f⟩:=l.row uM;have:r=512:=uM
 subst this;have A:=k b (by simp[j]);exact⟨c.trans o wb,hs,b,by rw[i],f,by have:=c.nx;omega,A.2⟩
def zG {s:St}{T:iT}{n:Nat}(h:bZ s p a lg M bd bn bi bc):
 ∃k i c j f d e,fI .int (.agg (zr 512)) (.map bn) (I n) s=.ok (.tuple [k,I i]) (St.set s bn c)/\
  (∃b,dY (.map bn) (I i) (.agg (ai T)) (St.set s bn c)=.ok .undef (St.set s bn b)/\
  fI .int (.bool false) (.map bc) (I n) (St.set s bn b)=.ok (.tuple [j,I f]) (St.set (St.set s bn b) bc d)/\
  dY (.map bc) (I f) (.bool true) (St.set (St.set s bn b) bc d)=.ok .undef e)/\Kp [bn,bc] s e/\e.nx=s.nx/\bZ e p a lg {M with now:=ix M.now n T,count:=fX M.count n} bd bn bi bc:=by
 have nd:=h.nd;simp only[aHX,aHJ,aIo,aJj,aJf]at nd;obtain⟨⟨R,C,Q,B⟩,⟨A,P,z⟩,⟨y,v⟩,O,_⟩:=nd;obtain⟨k,i,c,N,L⟩:=h.now.entry (.agg (zr 512)) n;obtain⟨b,x,u⟩:=L (.agg (ai T)) _ (an s bn c);rw[set_set]at x u;have E:dd (St.set s bn b) bc (uz M.count):=h.count.mono (ak _ _ _ _ (aIG v));obtain⟨j,f,d,K,J⟩:=E.entry (.bool false) n;obtain⟨r,w,o⟩:=J (.bool true) _ (an (St.set s bn b) bc d);rw[set_set]at w o;rw[wy]at u;rw[wx]at o;have l1:=h.lt bn wb;have l2:=h.lt bc wb;have l:∀q,q≠bn->q≠bc->(St.set (St.set s bn b) bc r).m.g q=s.m.g q:=λq H G=>(ak _ _ _ _ G).trans (ak _ _ _ _ H);refine⟨k,i,c,j,f,d,_,N,⟨b,x,K,w⟩,((Kp.refl _ s).set _ (.inl wb) l1).set _ (.inl wb) l2,rfl,?_,h.dirty.mono (l bd A z),u.mono (ak _ _ _ _ v),h.idle.mono (l bi (aIG y) O),o,h.nd,h.lt,h.lgs⟩;exact(l p C B).trans h.main
def Nh (h:bZ st p a lg M bd bn bi bc){n:Nat}(s:M.bW n){v:CV}{T:iT}(j:Sl st [bn,bc] v 1 (ai T))(d:T.length=512):
 R 99 [.ptr p 0,I n,v] st λx st'=>x=I 0/\Kp [bn,bc] st st'/\st'.nx=st.nx/\bZ st' p a lg {M with now:=ix M.now n T,count:=fX M.count n} bd bn bi bc:=by
 refine bK ?_;rw[w99];simp only[cc,af,ag,aHH,aHV];refine(wi h n).same ?_;have hlen:=j.len 512 (by simp[d]) uM st;simp only[s,aIS,cR,af,aIb,aG,aHH,aHV,aHY,ba,hlen];have A:aj .neq (some .int) true (I ((512:Nat):Int)) (.int .i64 512) st=.ok (.bool false) st:=rfl;obtain⟨S,Y,i,Q,X,W,U,P,⟨V,O,N,L⟩,K,J,H⟩:=zG (T:=T) (n:=n) h
 have r:∃c off,pM 512 v st=.ok (.ptr c off) st/\c≠bn/\∃l t g,st.m.g c=some (.cells l t g)/\off+512<=l.length/\(l.drop off).take 512=ai T:=by
  rcases j with⟨_,h⟩|⟨b,off,len,cap,grow,rfl,z,h3,f⟩
  .have:=congrArg List.length h;simp[d]at this
  .have:len=512:=by simp[d]at z;omega
   subst this;rcases f with f|⟨y,h6,l,t,g,w,Z,u⟩
   .cases f
   .refine⟨b,off,?_,λe=>y ady,l,t,g,w,uM,by simpa using u⟩;have e:pM 512 (.slice b off 512 cap grow) st=bE (Bool.and (Nat.ble 512 512) (Bool.or (Nat.beq grow 0) (Bool.and (Nat.ble 1 cap) (Nat.ble 512 cap)))) (.ok (.ptr b off) st) .bad:=rfl;rw[e,aO,aHP (by simp only[aIf,aIK,aIr,aIs];omega)]
 obtain⟨c,off,G,E,l,t,g,q,o,k⟩:=r;have C:aJ 512 (.ptr c off) st=.ok (.agg (ai T)) st:=by rw[gL q o,k]
 have B:aJ 512 (.ptr c off) (St.set st bn i)=.ok (.agg (ai T)) (St.set st bn i):=by rw[gL ((ak _ _ _ _ E).trans q) o,k]
 simp only[A,af,aF,aHH,aHV,ag,bD,bj,ah,az,h.main,ar,aHN,aHI,aHG,aw,G,C,P,aP,aD,aI,O,N,L,B];exact⟨⟨afp,afp,⟨afp,afp⟩,afp⟩,afp,afp,K,J,H⟩
end
section
variable {st st':St} {p a:Nat} {lg:CV} {M:bR} {bd bn bi bc:Nat} {F:List Nat} {D:aU}
def abH (l:List UInt8):ph l<256^l.length:=by
 have b:∀k (l:List UInt8),l.length=k->ph l<256^k:=by
  intro k
  induction k with
  |zero=>intro l h;have:=aIh.1 h;subst this;simp[ph]
  |succ k d=>
   intro l h;have c:l≠[]:=λe=>by subst e;simp at h
   have e:=List.dropLast_concat_getLast c;have h1:=d l.dropLast aaX;have h2:=(l.getLast c).toNat_lt;rw[<-e,tF,aKt];omega
 exact b _ l rfl
def qV (l:List UInt8)(h:l.length<=4)(i:Nat):ph (l.take i)<=4611686018427387904:=by
 have h1:=abH (l.take i);have b:(l.take i).length<=4:=TP
 have c:256^(l.take i).length<=256^4:=aKm uM b;omega
def bZ.ES (h:bZ st p a lg M bd bn bi bc)(m':iZ):Kp [p] st (St.set st p (.cells [.ptr a 0,lg,I M.first,I M.aE,.map bd,.map bn,I M.kept.root,I M.kept.used,I M.kept.head,I M.kept.free,I m'.root,I m'.used,I m'.head,I m'.free,.map bi,.map bc] 158 false))/\
 bZ (St.set st p (.cells [.ptr a 0,lg,I M.first,I M.aE,.map bd,.map bn,I M.kept.root,I M.kept.used,I M.kept.head,I M.kept.free,I m'.root,I m'.used,I m'.head,I m'.free,.map bi,.map bc] 158 false)) p a lg {M with m:=m'} bd bn bi bc:=by
 have nd:=h.nd;simp only[aHX,aHJ,aIo,aJj,aJf]at nd;exact⟨(Kp.refl _ st).set _ (.inl wb) (h.lt p wb),an _ _ _,h.dirty.mono (ak _ _ _ _ (aIG nd.1.1)),h.now.mono (ak _ _ _ _ (aIG nd.1.2.1)),h.idle.mono (ak _ _ _ _ (aIG nd.1.2.2.1)),h.count.mono (ak _ _ _ _ (aIG nd.1.2.2.2)),h.nd,h.lt,h.lgs⟩
def bR.Bu (M:bR):bR:={M with m:={M.m with used:=M.m.used+1},now:=ix M.now M.m.used lO,count:=fX M.count M.m.used}
def bR.yz (M:bR)(D:aU):bR:={M with m:={M.m with head:=ph ((M.get D M.m.head).take 4),free:=M.m.free-1},idle:=Af M.idle M.m.head,now:=ix M.now M.m.head lO,count:=fX M.count M.m.head}
def K1:zr 512=ai lO:=oz 512
def LC (s:St):aZ (zr 512) [] s=.ok (.agg (zr 512)) s:=by rw[dB,lJ]
def OH (h:bZ st p a lg M bd bn bi bc)(k:M.aE<=1000000)(j:M.m.used<=1000000)(i:M.m.free<=1000000)(g:M.cD≠0)(l:M.m.head=0):
 R 97 [.ptr p 0] st λv st'=>v=.tuple [I M.m.used,I 0]/\Kp [p,bn,bc] st st'/\st'.nx=st.nx/\bZ st' p a lg M.Bu bd bn bi bc:=by
 refine bK ?_;rw[w97];simp only[cc,af,ag,aHH,aHV];refine(Av h k j i).same ?_;have r:aj .eql (some .int) true (I M.cD) (.int .i64 0) st=.ok (.bool false) st:=by rw[av,cC,aHL g]
 have q:aj .eql (some .int) true (I M.m.head) (.int .i64 0) st=.ok (.bool true) st:=by rw[l];rfl
 have o:aj .add none true (I M.m.used) (.int .i64 1) st=.ok (I ((M.m.used+1:Nat):Int)) st:=F7
 have e:bz [.ptr a 0,lg,I M.first,I M.aE,.map bd,.map bn,I M.kept.root,I M.kept.used,I M.kept.head,I M.kept.free,I M.m.root,I M.m.used,I M.m.head,I M.m.free,.map bi,.map bc] 11 [I ((M.m.used+1:Nat):Int)]=[.ptr a 0,lg,I M.first,I M.aE,.map bd,.map bn,I M.kept.root,I M.kept.used,I M.kept.head,I M.kept.free,I M.m.root,I ((M.m.used+1:Nat):Int),I M.m.head,I M.m.free,.map bi,.map bc]:=rfl;obtain⟨c,b⟩:=h.ES {M.m with used:=M.m.used+1};simp only[r,af,ag,aHH,aHV,sy,bj,ah,az,h.main,ar,aHN,Nat.reduceAdd,aHI,aHG,aw,q,aIj,o,BU,aH,aS,ji,e];refine⟨⟨rfl,rfl,wb⟩,?_⟩;have G:(St.set st p (.cells [.ptr a 0,lg,I M.first,I M.aE,.map bd,.map bn,I M.kept.root,I M.kept.used,I M.kept.head,I M.kept.free,I M.m.root,I ((M.m.used+1:Nat):Int),I M.m.head,I M.m.free,.map bi,.map bc] 158 false)).nx=st.nx:=rfl;simp only at c b;generalize St.set st p (.cells [.ptr a 0,lg,I M.first,I M.aE,.map bd,.map bn,I M.kept.root,I M.kept.used,I M.kept.head,I M.kept.free,I M.m.root,I ((M.m.used+1:Nat):Int),I M.m.head,I M.m.free,.map bi,.map bc] 158 false)=s2 at*;obtain⟨A,K,E,z,J,H,B,y,⟨C,d,x,w⟩,u,L,s⟩:=zG (T:=lO) (n:=M.m.used) b;rw[<-K1]at d;have f:=b.main;simp only[bD,af,f,ar,aHI,aHG,aw,LC,y,aP,aD,aI,d,x,w];refine⟨⟨afp,afp,afp⟩,afp,afp,(c.mono wb).trans u wb,uM,s⟩
end
section
variable {st st':St} {p a:Nat} {lg:CV} {M:bR} {bd bn bi bc:Nat} {F:List Nat} {D:aU}
def fj (h:Nat):iT:=be 4 h++List.replicate 508 0
def ta (h:Nat):(fj h).length=512:=by
 unfold fj;rw[aHR,iC,aIF]
def Ns (h:Nat):bz (zr 512) 0 (ai (be 4 h))=ai (fj h):=by
 unfold bz fj;rw[bI,aJG,aIm,bF,iC,oz]
 congr 1
def bR.drop (M:bR)(n:Nat):bR:={M with m:={M.m with head:=n,free:=M.m.free+1},now:=ix M.now n (fj M.m.head),count:=fX M.count n,idle:=fX M.idle n}
def VW (h:bZ st p a lg M bd bn bi bc){n:Nat}(K:M.bW n)(h3:M.m.free<=1000000)(h4:M.m.head<=1000000):
 R 95 [.ptr p 0,I n] st λv st'=>v=I 0/\Kp [p,bn,bi,bc] st st'/\bZ st' p a lg (M.drop n) bd bn bi bc:=by
 refine bK ?_;rw[w95];simp only[cc,af,ag,aHH,aHV];refine(wi h n).same ?_;have x:Kp [] st (St.new st (.cells (zr 512) 173 false)):=(Kp.refl [] st).new _;have N:(St.new st (.cells (zr 512) 173 false)).m.g st.nx=some (.cells (zr 512) 173 false):=au _ _;have n2:(St.new st (.cells (zr 512) 173 false)).nx=st.nx+1:=rfl;simp only[K,aIS,cR,af,aIb,ag,aHH,aHV,cz,aP,bD];generalize St.new st (.cells (zr 512) 173 false)=s2 at*;have A:bT 512 1 (.ptr st.nx 0) none (some (.int .i64 4)) s2=.ok (.slice st.nx 0 4 512 0) s2:=rfl;have h2:=h.keep x wb;have Y:=h2.main;simp only[A,af,bj,ah,az,Y,ar,aHN,Nat.reduceAdd,aHI,aHG,aw];refine(JI (n:=M.m.head) (len:=4) (off:=0) (cap:=512) N uM (by rw[jJ];decide) uM uM).mono ?_;rintro _ s3 ⟨w,n3,k⟩;rw[Ns]at k;have z:(ai (fj M.m.head)).length=512:=by simp[ta]
 have Z:∀b∈[p,bd,bn,bi,bc],b∉[st.nx]:=λb L=>by have:=h.lt b L;simp;omega
 have d:=h2.keep w Z;have j:=d.main;obtain⟨v1,i1,r,v2,i2,mK,s7,X,⟨qU,W,V,U⟩,S,a6,y⟩:=zG (T:=fj M.m.head) (n:=n) d;have Q:=aM k z;have FX:st.nx≠bn:=λe=>by have:=h.lt bn wb;omega
 have P:aJ 512 (.ptr st.nx 0) (St.set s3 bn r)=.ok (.agg (ai (fj M.m.head))) (St.set s3 bn r):=aM ((ak _ _ _ _ FX).trans k) z;have i:=y.main;have O:∀s,aj .add none true (I M.m.free) (.int .i64 1) s=.ok (I ((M.m.free+1:Nat):Int)) s:=λs=>F7
 obtain⟨u,c⟩:=y.ES {M.m with head:=n,free:=M.m.free+1};have C:bz [.ptr a 0,lg,I M.first,I M.aE,.map bd,.map bn,I M.kept.root,I M.kept.used,I M.kept.head,I M.kept.free,I M.m.root,I M.m.used,I M.m.head,I M.m.free,.map bi,.map bc] 12 [I n]=[.ptr a 0,lg,I M.first,I M.aE,.map bd,.map bn,I M.kept.root,I M.kept.used,I M.kept.head,I M.kept.free,I M.m.root,I M.m.used,I n,I M.m.free,.map bi,.map bc]:=rfl;have J:bz [.ptr a 0,lg,I M.first,I M.aE,.map bd,.map bn,I M.kept.root,I M.kept.used,I M.kept.head,I M.kept.free,I M.m.root,I M.m.used,I n,I M.m.free,.map bi,.map bc] 13 [I ((M.m.free+1:Nat):Int)]=[.ptr a 0,lg,I M.first,I M.aE,.map bd,.map bn,I M.kept.root,I M.kept.used,I M.kept.head,I M.kept.free,I M.m.root,I M.m.used,I n,I ((M.m.free+1:Nat):Int),.map bi,.map bc]:=rfl;obtain⟨blk,q,B,o⟩:=IsMap.update (.inl c.idle) n (.bool true);simp only at u c q B o;simp only[bj,ah,af,az,j,ar,aHN,Nat.reduceAdd,aHI,aHG,aw,Q,P,X,aP,aD,aI,W,V,U,sy,i,O,BU,aH,aS,ji,C,an,J,set_set,eQ,q];have nd:=h.nd;simp only[aHX,aHJ,aIo,aJj,aJf]at nd;obtain⟨⟨m1,m2,H,m4⟩,⟨m5,G,m7⟩,⟨E,m9⟩,f,_⟩:=nd;refine⟨⟨afp,afp⟩,afp,⟨afp,afp,⟨afp,afp⟩,afp⟩,afp,⟨rfl,rfl,wb⟩,⟨rfl,rfl,wb⟩,afp,?_,?_⟩
 .have q1:Kp [p,bn,bi,bc] st s3:=(x.trans w wb).mono wb;have q2:=q1.trans S wb;refine(q2.trans u wb).set _ (.inl wb) ?_;have:=c.lt bi wb;exact this
 .have l:=o c.idle;rw[wx]at l;exact⟨(ak _ _ _ blk H).trans c.main,c.dirty.mono (ak _ _ _ blk G),c.now.mono (ak _ _ _ blk E),l,c.count.mono (ak _ _ _ blk (aIG f)),h.nd,c.lt,h.lgs⟩
end
section
variable {st st':St} {p a:Nat} {lg:CV} {M:bR} {bd bn bi bc:Nat} {F:List Nat} {D:aU}
def OG (h:bZ st p a lg M bd bn bi bc)(hd:cQ st a F D)(O:D.dead=false)(h1:M.aE<=1000000)(h2:M.m.used<=1000000)(h3:M.m.free<=1000000)(hf:M.cD≠0)(XH:0<M.m.free)(h0:M.m.head≠0)
 (hn:M.first+M.m.head<D.aq.length) (hs:(M.get D M.m.head).length=512):
 R 97 [.ptr p 0] st λv st'=>v=.tuple [I M.m.head,I 0]/\Kp [p,bn,bi,bc] st st'/\bZ st' p a lg (M.yz D) bd bn bi bc:=by
 refine bK ?_;rw[w97];simp only[cc,af,ag,aHH,aHV];refine(Av h h1 h2 h3).same ?_;have e1:aj .eql (some .int) true (I M.cD) (.int .i64 0) st=.ok (.bool false) st:=by rw[av,cC,aHL hf]
 have e2:aj .eql (some .int) true (I M.m.head) (.int .i64 0) st=.ok (.bool false) st:=Pe
 simp only[e1,af,ag,aHH,aHV,sy,bj,ah,az,h.main,ar,aHN,Nat.reduceAdd,aHI,aHG,aw,e2];refine(zE h hd O hn hs).mono ?_;rintro _ c ⟨rfl,X⟩;have L:(ai (M.get D M.m.head)).length=512:=aco
 simp only[aD,aI,af];refine gW L (bu _) ?_;have G:=X.page (ai (M.get D M.m.head));have g9:(St.set (St.new c (.cells (zr 512) 173 false)) c.nx (.cells (ai (M.get D M.m.head)) 173 false)).m.g c.nx=some (.cells (ai (M.get D M.m.head)) 173 false):=an _ _ _;have n9:(St.set (St.new c (.cells (zr 512) 173 false)) c.nx (.cells (ai (M.get D M.m.head)) 173 false)).nx=c.nx+1:=rfl;generalize St.set (St.new c (.cells (zr 512) 173 false)) c.nx (.cells (ai (M.get D M.m.head)) 173 false)=f at*;have H:=h.keep G wb;have r:=H.main;have K:bT 512 1 (.ptr c.nx 0) none (some (.int .i64 4)) f=.ok (.slice c.nx 0 4 512 0) f:=rfl;have A:ai ((M.get D M.m.head).take 4)=(ai (M.get D M.m.head)).take 4:=ack
 have Y:Sl f [] (.slice c.nx 0 4 512 0) 1 (ai ((M.get D M.m.head).take 4)):=.inr ⟨c.nx,0,4,512,0,rfl,by rw[A,aHZ];omega,⟨uM,.inl rfl⟩,.inr ⟨wb,uM,_,_,_,g9,uM,by rw[aIn,A]⟩⟩;simp only[av,ff,aIS,aIb,af,ag,aHH,aHV,bD,K];have u:((M.get D M.m.head).take 4).length<=4:=TP
 refine(qH Y uM (qV _ u)).same ?_;have e3:∀s,ki .sub .i64 (M.m.free:Int) .i64 1 s=.ok (I ((M.m.free-1:Nat):Int)) s:=λs=>by rw[dS,bA uM];congr 2;omega
 obtain⟨E,d⟩:=H.ES {M.m with head:=ph ((M.get D M.m.head).take 4),free:=M.m.free-1};have N:bz [.ptr a 0,lg,I M.first,I M.aE,.map bd,.map bn,I M.kept.root,I M.kept.used,I M.kept.head,I M.kept.free,I M.m.root,I M.m.used,I M.m.head,I M.m.free,.map bi,.map bc] 12 [I (ph ((M.get D M.m.head).take 4))]=[.ptr a 0,lg,I M.first,I M.aE,.map bd,.map bn,I M.kept.root,I M.kept.used,I M.kept.head,I M.kept.free,I M.m.root,I M.m.used,I (ph ((M.get D M.m.head).take 4)),I M.m.free,.map bi,.map bc]:=rfl;have U:bz [.ptr a 0,lg,I M.first,I M.aE,.map bd,.map bn,I M.kept.root,I M.kept.used,I M.kept.head,I M.kept.free,I M.m.root,I M.m.used,I (ph ((M.get D M.m.head).take 4)),I M.m.free,.map bi,.map bc] 13 [I ((M.m.free-1:Nat):Int)]=[.ptr a 0,lg,I M.first,I M.aE,.map bd,.map bn,I M.kept.root,I M.kept.used,I M.kept.head,I M.kept.free,I M.m.root,I M.m.used,I (ph ((M.get D M.m.head).take 4)),I ((M.m.free-1:Nat):Int),.map bi,.map bc]:=rfl;obtain⟨x,C,B,k⟩:=d.idle.delete (M.m.head:Int);simp only at E d C B k;have nd:=h.nd;simp only[aHX,aHJ,aIo,aJj,aJf]at nd;obtain⟨⟨m1,m2,S,m4⟩,⟨m5,Q,m7⟩,⟨P,m9⟩,o,_⟩:=nd;have w:=d.lt bi wb;rw[PG]at k;generalize y:St.set f p (.cells [.ptr a 0,lg,I M.first,I M.aE,.map bd,.map bn,I M.kept.root,I M.kept.used,I M.kept.head,I M.kept.free,I M.m.root,I M.m.used,I (ph ((M.get D M.m.head).take 4)),I ((M.m.free-1:Nat):Int),.map bi,.map bc] 158 false)=j at*
 have l:Kp [bi] j x:=by
  rcases B with rfl|⟨blk,rfl⟩
  .exact Kp.refl _ _
  .exact(Kp.refl _ j).set _ (.inl wb) w
 have i:∀q∈[p,bd,bn,bi,bc],q≠bi->x.m.g q=j.m.g q:=λq Z gV=>l.keep q (d.lt q Z) acK
 have e:bZ x p a lg {M with m:={M.m with head:=ph ((M.get D M.m.head).take 4),free:=M.m.free-1},idle:=Af M.idle M.m.head} bd bn bi bc:=
  ⟨(i p wb S).trans d.main,d.dirty.mono (i bd wb Q),d.now.mono (i bn wb P),k,d.count.mono (i bc wb (aIG o)),h.nd,λb hb=>aId (d.lt b hb) l.nx,h.lgs⟩
 obtain⟨v1,i1,ny,v2,i2,mK,jG,a1,⟨qU,J,a3,a4⟩,a5,a6,a7⟩:=zG (T:=lO) (n:=M.m.head) e;rw[<-K1]at J;have z:=e.main;have NT:=d.main;simp only[bj,ah,af,az,r,ar,aHN,Nat.reduceAdd,aHI,aHG,aw,av,e3,aH,aS,ji,N,an,U,set_set,y,eQ,C,aP,z,LC,a1,aD,aI,J,a3,a4];have W:Kp [p,bn,bi,bc] st j:=(G.mono wb).trans E wb;have V:=W.trans l wb;exact⟨⟨rfl,rfl,wb⟩,⟨rfl,rfl,wb⟩,⟨⟨afp,afp⟩,afp⟩,afp,⟨afp,afp,afp⟩,afp,afp,V.trans a5 wb,a7⟩
end
section
variable {st st':St} {p a:Nat} {lg:CV} {M:bR} {bd bn bi bc:Nat} {F:List Nat} {D:aU}
def qA (b:cQ st a F D):R 70 [.ptr a 0] st λv st'=>v=I ((D.aq.length/4:Nat):Int)/\st'=st:=by
 refine bK ?_;rw[w70];refine(vD b).same ?_;have c:=(show D.aq.length<=65536 from by obtain⟨_,_,_,_,_,_,_,h⟩:=b;exact h.size)
 have e:aj .quo none true (I D.aq.length) (.int .i64 4) st=.ok (I ((D.aq.length/4:Nat):Int)) st:=by
  have f:aj .quo none true (I D.aq.length) (.int .i64 4) st=.ok (I (IntKind.i64.wrap (Int.tdiv D.aq.length 4))) st:=rfl;have d:Int.tdiv (D.aq.length:Int) 4=((D.aq.length/4:Nat):Int):=rfl;rw[f,d,bA uM]
 rw[e,af];exact⟨rfl,rfl⟩
def c9 (base:Nat):iT:=[98,117,116,116,101,114,121,49]++be 8 base++List.replicate 496 0
def rG (base:Nat):(c9 base).length=512:=by
 unfold c9;simp only[aHR,iC,aIF,aIg,aJB]
def aU.head (D:aU)(base:Nat):Int×aU:=if (D.write 0 (c9 base)).1=0 then (D.write 0 (c9 base)).2.flush else D.write 0 (c9 base)
def Mo (P:eA st)(x:cQ st a F D)(hw:D.waits.length<90000000){base:Nat}(j:base<9223372036854775808):R 89 [.ptr a 0,I base] st λv st'=>v=I (D.head base).1/\vW a F st (D.head base).2 st':=by
 refine bK ?_;rw[w89];have N:Kp [] st (St.new st (.cells (zr 512) 173 false)):=(Kp.refl [] st).new _;have S:(St.new st (.cells (zr 512) 173 false)).m.g st.nx=some (.cells (zr 512) 173 false):=au _ _;have n1:(St.new st (.cells (zr 512) 173 false)).nx=st.nx+1:=rfl;rw[cz,aP];generalize St.new st (.cells (zr 512) 173 false)=s1 at*;have A:∀s,bT 512 1 (.ptr st.nx 0) none none s=.ok (.slice st.nx 0 512 512 0) s:=λs=>rfl
 have f:gR true 1 (.slice st.nx 0 512 512 0) (.str [98,117,116,116,101,114,121,49]) s1=.ok (I 8) (St.set s1 st.nx (.cells (bz (zr 512) 0 (ai [98,117,116,116,101,114,121,49])) 173 false)):=by
  have e:gR true 1 (.slice st.nx 0 512 512 0) (.str [98,117,116,116,101,114,121,49]) s1=(match s1.m.g st.nx with
   |some (.cells s ty g)=>Option.rec (Option.rec .bad (λs'=>zn .i64 ⟨s1.m.put st.nx (some (.cells s' ty g)),s1.nx⟩ 8) (Cy s 0 (ai [98,117,116,116,101,114,121,49]) (0+512*0))) (λs'=>zn .i64 ⟨s1.m.put st.nx (some (.cells s' ty g)),s1.nx⟩ 8) (dZ s 0 (ai [98,117,116,116,101,114,121,49]))
   |_=>.bad):=rfl
  rw[e,S];have u:dZ (zr 512) 0 (ai [98,117,116,116,101,114,121,49])=some (bz (zr 512) 0 (ai [98,117,116,116,101,114,121,49])):=by unfold dZ;rw[aHP (by rw[jJ];decide)];rfl
  dsimp only;rw[u];rfl
 have w:bz (zr 512) 0 (ai [98,117,116,116,101,114,121,49])=ai [98,117,116,116,101,114,121,49]++ai (List.replicate 504 0):=by
  have e:zr 512=ai (List.replicate 8 0)++ai (List.replicate 504 0):=by rw[oz,<-bI,List.replicate_append_replicate]
  rw[e];rfl
 rw[w]at f;have o:∀s,bT 512 1 (.ptr st.nx 0) (some (.int .i64 8)) (some (.int .i64 16)) s=.ok (.slice st.nx 8 8 504 0) s:=λs=>rfl;simp only[A,af,f,aP,o];have L:Kp [] st (St.set s1 st.nx (.cells (ai [98,117,116,116,101,114,121,49]++ai (List.replicate 504 0)) 173 false)):=N.set _ (.inr (aHK _)) uM;have Q:(St.set s1 st.nx (.cells (ai [98,117,116,116,101,114,121,49]++ai (List.replicate 504 0)) 173 false)).m.g st.nx=some (.cells (ai [98,117,116,116,101,114,121,49]++ai (List.replicate 504 0)) 173 false):=an _ _ _;have n2:(St.set s1 st.nx (.cells (ai [98,117,116,116,101,114,121,49]++ai (List.replicate 504 0)) 173 false)).nx=s1.nx:=rfl;generalize St.set s1 st.nx (.cells (ai [98,117,116,116,101,114,121,49]++ai (List.replicate 504 0)) 173 false)=s2 at*;refine(JI (n:=base) (len:=8) (off:=8) (cap:=504) Q uM wb uM j).mono ?_;rintro _ E ⟨K,n3,y⟩
 have G:bz (ai [98,117,116,116,101,114,121,49]++ai (List.replicate 504 0)) 8 (ai (be 8 base))=ai (c9 base):=by
  have e:=qG (ai [98,117,116,116,101,114,121,49]) (ai (List.replicate 504 0)) (ai (be 8 base));have T:(ai [98,117,116,116,101,114,121,49]).length=8:=rfl
  have u:(ai (List.replicate 504 0)).drop (ai (be 8 base)).length=ai (List.replicate 496 0):=by
   unfold ai;rw[<-aJs,aJY,aIx,iC]
  rw[T,u]at e;rw[e];unfold c9;rw[bI,bI,aIq]
 rw[G]at y;have hl:=rG base;have OS:(ai (c9 base)).length=512:=adm
 have c:=L.trans K wb;have O:Sl E F (.slice st.nx 0 512 512 0) 1 (ai (c9 base)):=.inr ⟨st.nx,0,512,512,0,rfl,uM,⟨aHK _,.inl rfl⟩,.inr ⟨λh=>by have:=x.lt _ h;omega,uM,_,_,_,y,uM,Yv⟩⟩;refine(wg (i:=0) (x.keep c wb) (c.fresh P) uM O hl).mono ?_;rintro _ Z ⟨rfl,l,F',z,H⟩;have k:∀b∈F',b∈F\/st.nx<=b:=λb j=>(H b j).imp id λh=>by have:=c.nx;omega
 unfold aU.head
 by_cases d:(D.write 0 (c9 base)).1=0
 .rw[aHP d];obtain⟨X,B,W⟩:=zQ d;simp only[d,av,ff,aIS,aIb,af,ag,aHH,aHV];refine(xe z (by rw[B];simp;omega)).mono ?_;rintro _ Y ⟨rfl,J,V,U,C⟩;exact⟨rfl,((c.mono (λq r=>by simp at r)).trans l (afk)).trans J k,V,U,λb j=>(C b j).elim (k b) λh=>.inr (by have:=c.nx;have:=l.nx;omega)⟩
 .rw[aHM d];simp only[av,ff,d,aJm,aHY,af,ag,aIj];exact⟨afp,(c.mono (λq r=>by simp at r)).trans l (afk),F',z,k⟩
end
