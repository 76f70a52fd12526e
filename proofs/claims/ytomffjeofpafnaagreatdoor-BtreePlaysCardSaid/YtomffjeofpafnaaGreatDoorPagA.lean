import Derived.Test.YtomffjeofpafnaaGreatDoorRingB
namespace Lim
open Go
noncomputable section
set_option maxRecDepth 100000
section
variable {st st':St}
def nb (l:List UInt8):Nat:=l.foldl (fun a b=>a*256+b.toNat) 0
theorem rJ (l:List UInt8)(b:UInt8):nb (l++[b])=nb l*256+b.toNat:=by simp[nb]
def be (k n:Nat):List UInt8:=(le k n).reverse
theorem gU (k n:Nat):(be k n).length=k:=by simp[be,hJ]
theorem xI (k n:Nat):be (k+1) n=UInt8.ofNat (n/256^k%256)::be k n:=by simp[be,le]
theorem Oy (k:Nat):∀n acc:Nat,(be k n).foldl (fun a b=>a*256+b.toNat) acc=acc*256^k+n%256^k:=by
 induction k with
 |zero=>intro n acc;simp[be,le,Nat.mod_one]
 |succ k ih=>
  intro n acc;rw[xI,List.foldl_cons,ih];have h1:(UInt8.ofNat (n/256^k%256)).toNat=n/256^k%256:=by simp
  have h2:n%256^(k+1)=n%256^k+256^k*(n/256^k%256):=by rw[aDj,Nat.mod_mul]
  rw[h1,h2,aDj,aBI,Nat.mul_assoc,aCA 256 (256^k),aCA (n/256^k%256)];omega
theorem uj (k n:Nat)(h:n<256^k):nb (be k n)=n:=by
 unfold nb;rw[Oy,aDq,aAF,aCw h]
theorem AX (a m k:Nat)(h:a<2^k)(hs:a+m*2^k<9223372036854775808)(d:Option jL)(c:Bool)(st:St):aj .or d c (I ((m*2^k:Nat):Int)) (I a) st= .ok (I ((m*2^k+a:Nat):Int)) st:=by
 have e:aj .or d c (I ((m*2^k:Nat):Int)) (I a) st=(match jA .or .i64 ((m*2^k:Nat):Int) (a:Int)with|some r=> .ok (.int .i64 r) st|none=> .bad):=rfl
 have e2:jA .or .i64 ((m*2^k:Nat):Int) (a:Int)=jA .or .i64 (a:Int) ((m*2^k:Nat):Int):=by
  show some (IntKind.i64.wrap ((BitVec.ofInt 64 _|||BitVec.ofInt 64 _).toNat:Int))=some (IntKind.i64.wrap ((BitVec.ofInt 64 _|||BitVec.ofInt 64 _).toNat:Int));rw[BitVec.or_comm]
 rw[e,e2,SS a m k h hs,aDr]
theorem rZ {X:List Nat}{v:CV}{l:List UInt8}(h:Sl st X v 1 (ai l))(hl:l.length<=1000)(hb:∀i,nb (l.take i)<=4611686018427387904):R 71 [v] st fun x st'=>x=I (nb l)/\st'=st:=by
 refine bN ?_;rw[w71];have hlen:=h.len l.length (by simp) (by omega) st;show us _ _;rw[hlen,af];show c8 _ _ _;simp only[aJ,aK];refine bK (fun fu vs s=>∃i,fu+i=l.length/\vs=[I (nb (l.take i)),v,I l.length,I i]/\s=st) ?_ (n:=l.length) ⟨0,rfl,rfl,rfl⟩;rintro fu vs s k ⟨i,hi,rfl,rfl⟩ next;simp only[aJ,aK]
 by_cases hc:i<l.length
 ·have a1:aj .lss none false (I i) (I l.length) s= .ok (.bool true) s:=by rw[aw,cP,aAJ (by omega)]
  have Jm:=hb i;have Gu:=hb (i+1);have yO:l.take (i+1)=l.take i++[l[i]]:=by rw[aAR hc]
  rw[yO,rJ]at Gu;have hlt:(l[i]).toNat<256:=(l[i]).toNat_lt
  have a2:aj .shl none true (I (nb (l.take i))) (.int .u64 8) s= .ok (I ((nb (l.take i)*2^8:Nat):Int)) s:=by
   have e:aj .shl none true (I (nb (l.take i))) (.int .u64 8) s= .ok (I (IntKind.i64.wrap ((nb (l.take i):Int)*2^8))) s:=rfl;rw[e,bz (by omega)];simp
  have a3:dB (.toInt .i64) (bO l[i]) s= .ok (I (l[i]).toNat) s:=DK _ (by omega) _ _;have a4:aj .or none false (I ((nb (l.take i)*2^8:Nat):Int)) (I (l[i]).toNat) s= .ok (I ((nb (l.take i)*2^8+(l[i]).toNat:Nat):Int)) s:=AX _ _ _ (by omega) (by omega) _ _ _;have a5:aj .add none true (I i) (.int .i64 1) s= .ok (I ((i+1:Nat):Int)) s:=by rw[aw,cE,bz (by omega)];rfl
  simp only[a1,af,ag,aAY,a2];refine h.idx (by simpa using hc) _ ?_;have hg:(ai l)[i]'(by simpa using hc)=bO l[i]:=by simp[ai]
  rw[hg,a3,af,a4,af,a5,af];exact next (fu-1) _ _ (by omega) ⟨i+1,by omega,by rw[yO,rJ],rfl⟩
 ·have a1:aj .lss none false (I i) (I l.length) s= .ok (.bool false) s:=by rw[aw,cP,aAB (by omega)]
  simp only[a1,af,ag,aAz,aAO];rw[aAK (by omega)];exact⟨rfl,trivial⟩
theorem AY (L T:List CV)(p:Nat)(x:CV)(h:p+1+T.length<=L.length):bp (bp L (p+1) T) p [x]=bp L p (x::T):=by
 unfold bp
 have e1:(L.take (p+1)++(T++L.drop (p+1+T.length))).take p=L.take p:=by
  rw[List.take_append_of_le_length (by rw[aAN];omega),aBN,aBq (by omega)]
 have e2:(L.take (p+1)++(T++L.drop (p+1+T.length))).drop (p+1)=T++L.drop (p+1+T.length):=by
  rw[List.drop_append,aBj (by rw[aAN];omega),aAN,aBq (by omega),Nat.sub_self,aBg,aBf]
 simp only[aBb,aCb,aAF];rw[e1,e2];have e3:p+(T.length+1)=p+1+T.length:=by omega
 rw[e3];rfl
theorem yx (L:List CV)(p:Nat):bp L p []=L:=by unfold bp;simp
theorem G9 {b off len cap n:Nat}{L:List CV}{t:TypeId}{g:Bool}(hb:st.mem.get b=some (.cells L t g))(Dy:b<st.next)(hL:off+len<=L.length)(hlen:len<=8)(hn:n<9223372036854775808):
 R 135 [.slice b off len cap 0,I n] st fun x st'=>Kp [b] st st'/\st'.next=st.next/\st'.mem.get b=some (.cells (bp L off (ai (be len n))) t g):=by
 refine bN ?_;rw[ahl];simp only[cN,ns,af,aJ,aK]
 refine bK (fun fu vs s=>∃i,fu+i=len/\vs=[.slice b off len cap 0,I n,I len,I i]/\Kp [b] st s/\s.next=st.next/\s.mem.get b=some (.cells (bp L (off+len-i) (ai (be i n))) t g)) ?_ (n:=len) ⟨0,rfl,rfl,Kp.refl _ _,rfl,by
  have:ai (be 0 n)=[]:=rfl;rw[this,yx];exact hb⟩
 rintro fu vs s k ⟨i,hi,rfl,hk,HA,hg⟩ next;simp only[aJ,aK]
 by_cases hc:i<len
 ·have a1:aj .lss none false (I i) (I len) s= .ok (.bool true) s:=by rw[aw,cP,aAJ (by omega)]
  have a2:aj .sub none true (I len) (.int .i64 1) s= .ok (I ((len-1:Nat):Int)) s:=by rw[aw,dW,bz (by omega)];congr 2;omega
  have a3:aj .sub none false (I ((len-1:Nat):Int)) (I i) s= .ok (I ((len-1-i:Nat):Int)) s:=by rw[aw,dW,bz (by omega)];congr 2;omega
  have a4:aj .mul none true (.int .i64 8) (I i) s= .ok (I ((8*i:Nat):Int)) s:=by rw[aw,jR,bz (by omega)];rfl
  have a5:cQ 1 (.slice b off len cap 0) (I ((len-1-i:Nat):Int)) s= .ok (.ptr b (off+(len-1-i)*1)) s:=gf (by omega) (.inl rfl) s;have a6:∀s,aj .add none true (I i) (.int .i64 1) s= .ok (I ((i+1:Nat):Int)) s:=fun s=>by rw[aw,cE,bz (by omega)];rfl
  simp only[a1,af,ag,aAY,ns,a2,a3,a4,BS _ _ (show i<8 by omega),Ma,EN,a5,aF,hg,aR,a6];have e1:off+(len-1-i)*1=off+len-(i+1):=by omega
  have e2:off+len-i=off+len-(i+1)+1:=by omega
  have sY:(be i n).length=i:=gU i n
  have e3:bp (bp L (off+len-i) (ai (be i n))) (off+len-(i+1)) [bO (UInt8.ofNat (n/256^i%256))]=bp L (off+len-(i+1)) (ai (be (i+1) n)):=by
   rw[e2,AY _ _ _ _ (by simp[sY];omega),xI];rfl
  have Rq:(bO (UInt8.ofNat (n/256^i%256))).cD=[bO (UInt8.ofNat (n/256^i%256))]:=rfl;rw[e1,Rq,e3];refine⟨⟨rfl,rfl,by rw[l7 _ _ _ (by simp[sY];omega)];omega⟩,next (fu-1) _ _ (by omega) ⟨i+1,by omega,rfl,hk.set _ (.inl (by simp)) (by omega),HA,ao _ _ _⟩⟩
 ·have a1:aj .lss none false (I i) (I len) s= .ok (.bool false) s:=by rw[aw,cP,aAB (by omega)]
  simp only[a1,af,ag,aAz,aAO];have Dw:i=len:=by omega
  subst Dw;rw[aBX]at hg;exact⟨hk,HA,hg⟩
end
structure jB where
 root:Nat
 used:Nat
 head:Nat
 free:Nat
structure bS where
 first:Nat
 aE:Nat
 dirty:List (Nat×jl)
 now:List (Nat×jl)
 kept:jB
 m:jB
 idle:List Nat
 count:List Nat
def fZ (l:List (Nat×jl)):MZ:=l.map fun p:Nat×jl=>(Int.ofNat p.1,CV.agg (ai p.2))
def sS (l:List Nat):MZ:=l.map fun n:Nat=>(Int.ofNat n,CV.bool true)
def dg (l:List (Nat×jl))(n:Nat):Option jl:=match l with|[]=>none|p::r=>if n=p.1 then some p.2 else dg r n
def gD (l:List (Nat×jl))(n:Nat)(s:jl):List (Nat×jl):=match l with|[]=>[(n,s)]|p::r=>if n=p.1 then (n,s)::r else p::gD r n s
def mN (l:List Nat)(n:Nat):List Nat:=match l with|[]=>[n]|p::r=>if n=p then p::r else p::mN r n
def xZ (l:List Nat)(n:Nat):List Nat:=match l with|[]=>[]|p::r=>if n=p then r else p::xZ r n
theorem uK (l:List (Nat×jl))(n:Nat):iS (fZ l) n=(dg l n).map fun s=> .agg (ai s):=by
 induction l with
 |nil=>rfl
 |cons p r ih=>
  show(if (n:Int)=(p.1:Int)then some (CV.agg (ai p.2))else iS (fZ r) n)=_;simp only[dg]
  by_cases h:n=p.1
  ·rw[aAI h,aAI (by omega)];rfl
  ·rw[aAH h,aAH (by omega)];exact ih
theorem uJ (l:List (Nat×jl))(n:Nat)(s:jl):mz (fZ l) n (.agg (ai s))=fZ (gD l n s):=by
 induction l with
 |nil=>rfl
 |cons p r ih=>
  show(if (n:Int)=(p.1:Int)then ((n:Int),CV.agg (ai s))::fZ r else ((p.1:Int),CV.agg (ai p.2))::mz (fZ r) n (.agg (ai s)))=_;simp only[gD]
  by_cases h:n=p.1
  ·rw[aAI h,aAI (by omega)];rfl
  ·rw[aAH h,aAH (by omega),ih];rfl
theorem DS (l:List Nat)(n:Nat):iS (sS l) n=if n∈l then some (.bool true)else none:=by
 induction l with
 |nil=>rfl
 |cons p r ih=>
  show(if (n:Int)=(p:Int)then some (CV.bool true)else iS (sS r) n)=_
  by_cases h:n=p
  ·rw[aAI (by omega),aAI (by simp[h])]
  ·rw[aAH (by omega),ih];simp[h]
theorem xX (l:List Nat)(n:Nat):mz (sS l) n (.bool true)=sS (mN l n):=by
 induction l with
 |nil=>rfl
 |cons p r ih=>
  show(if (n:Int)=(p:Int)then ((n:Int),CV.bool true)::sS r else ((p:Int),CV.bool true)::mz (sS r) n (.bool true))=_;simp only[mN]
  by_cases h:n=p
  ·rw[aAI h,aAI (by omega),h];rfl
  ·rw[aAH h,aAH (by omega),ih];rfl
theorem Mp (l:List Nat)(n:Nat):pS (sS l) n=sS (xZ l n):=by
 induction l with
 |nil=>rfl
 |cons p r ih=>
  show(if (n:Int)=(p:Int)then sS r else ((p:Int),CV.bool true)::pS (sS r) n)=_;simp only[xZ]
  by_cases h:n=p
  ·rw[aAI h,aAI (by omega)]
  ·rw[aAH h,aAH (by omega),ih];rfl
structure cA (st:St)(p a:Nat)(lg:CV)(M:bS)(bd bn bi bc:Nat):Prop where
 main:st.mem.get p=some (.cells [.ptr a 0,lg,I M.first,I M.aE, .map bd, .map bn,I M.kept.root,I M.kept.used,I M.kept.head,I M.kept.free,I M.m.root,I M.m.used,I M.m.head,I M.m.free, .map bi, .map bc] 158 false)
 dirty:IsMap st bd (fZ M.dirty)
 now:da st bn (fZ M.now)
 idle:da st bi (sS M.idle)
 count:da st bc (sS M.count)
 nd:[p,bd,bn,bi,bc].Nodup
 lt:∀b∈[p,bd,bn,bi,bc],b<st.next
 lgs:lg.cD=[lg]/\cr lg=true/\lg.isAny=false
section
variable {st st':St} {p a:Nat} {lg:CV} {M:bS} {bd bn bi bc:Nat}
theorem cA.keep {X:List Nat}(h:cA st p a lg M bd bn bi bc)(hk:Kp X st st')(hx:∀b∈[p,bd,bn,bi,bc],b∉X):cA st' p a lg M bd bn bi bc:=by
 have k:∀b∈[p,bd,bn,bi,bc],st'.mem.get b=st.mem.get b:=fun b hb=>hk.keep b (h.lt b hb) (hx b hb);exact⟨(k p (by simp)).trans h.main,h.dirty.mono (k bd (by simp)),h.now.mono (k bn (by simp)),h.idle.mono (k bi (by simp)),h.count.mono (k bc (by simp)),h.nd,fun b hb=>aAZ (h.lt b hb) hk.next,h.lgs⟩
def bS.cJ (M:bS):Int:=(M.aE:Int)-M.m.used+M.m.free
def bS.bP (M:bS)(n:Nat):Prop:=0<n/\n<M.m.used/\n∉M.idle
instance (M:bS) (n:Nat):Decidable (M.bP n):=by unfold bS.bP;infer_instance
theorem ym (h:cA st p a lg M bd bn bi bc)(h1:M.aE<=1000000)(h2:M.m.used<=1000000)(h3:M.m.free<=1000000):R 62 [.ptr p 0] st fun v st'=>v=I M.cJ/\st'=st:=by
 refine bN ?_;rw[w62];have e1:IntKind.i64.wrap ((M.aE:Int)-M.m.used)=(M.aE:Int)-M.m.used:=bz (by omega);have e2:IntKind.i64.wrap ((M.aE:Int)-M.m.used+M.m.free)=M.cJ:=bz (by omega);simp[h.main,e1,e2]
theorem Qy (h:cA st p a lg M bd bn bi bc):R 54 [.ptr p 0] st fun v st'=>v=I M.m.root/\st'=st:=by
 refine bN ?_;rw[w54];simp[ru,h.main]
theorem uC (h:cA st p a lg M bd bn bi bc)(n:Nat):R 101 [.ptr p 0,I n] st fun v st'=>v= .bool (decide (M.bP n))/\st'=st:=by
 refine bN ?_;rw[ahL];have yX:=IsMap.lookup (.inl h.idle) (.bool false) false n st rfl;rw[aAH (by decide),DS]at yX;unfold bS.bP
 by_cases h1:0<n
 ·by_cases h2:n<M.m.used
  ·by_cases h3:n∈M.idle
   ·rw[aAI h3]at yX;simp[h1,h2,h3,jI,j0,h.main,yX]
   ·rw[aAH h3]at yX;simp[h1,h2,h3,jI,j0,h.main,yX]
  ·simp[h1,h2,jI,j0,h.main]
 ·have:n=0:=by omega
  subst this;simp[jI,j0,h.main]
theorem GN (h:cA st p a lg M bd bn bi bc)(n:Nat)(hn:n=0\/M.bP n):R 49 [.ptr p 0,I n] st fun v st'=>v=I 0/\Kp [p] st st'/\st'.next=st.next/\cA st' p a lg {M with m:={M.m with root:=n}} bd bn bi bc:=by
 refine bN ?_;rw[w49];have nd:=h.nd;simp only[aAQ,aAD,aBo,aCg,aBY]at nd
 have fin:zT 1 10 0 (.ptr p 0) (I n) st fun s2=>(I 0=I 0/\Kp [p] st s2/\s2.next=st.next/\cA s2 p a lg {M with m:={M.m with root:=n}} bd bn bi bc):=by
  have jZ:∀r,bp [CV.ptr a 0,lg,I M.first,I M.aE, .map bd, .map bn,I M.kept.root,I M.kept.used,I M.kept.head,I M.kept.free,I r,I M.m.used,I M.m.head,I M.m.free, .map bi, .map bc] 10 [I n]=[CV.ptr a 0,lg,I M.first,I M.aE, .map bd, .map bn,I M.kept.root,I M.kept.used,I M.kept.head,I M.kept.free,I n,I M.m.used,I M.m.head,I M.m.free, .map bi, .map bc]:=fun _=>rfl;simp only[zT,br,ah,af,aF,h.main,aR,iC,aAF,aBl,jZ];have hlt:=h.lt p (by simp);have hk:Kp [p] st (St.set st p (.cells [CV.ptr a 0,lg,I M.first,I M.aE, .map bd, .map bn,I M.kept.root,I M.kept.used,I M.kept.head,I M.kept.free,I n,I M.m.used,I M.m.head,I M.m.free, .map bi, .map bc] 158 false)):=(Kp.refl _ st).set _ (.inl (by simp)) hlt;refine⟨⟨rfl,rfl,by simp⟩,trivial,hk,rfl,ao _ _ _,h.dirty.mono (al _ _ _ _ (aBE nd.1.1)),h.now.mono (al _ _ _ _ (aBE nd.1.2.1)),h.idle.mono (al _ _ _ _ (aBE nd.1.2.2.1)),h.count.mono (al _ _ _ _ (aBE nd.1.2.2.2)),h.nd,h.lt,h.lgs⟩
 by_cases h0:n=0
 ·subst h0;simp
  simpa using fin
 ·have hu:=hn.resolve_left h0;have e0:¬(n:Int)=0:=by omega
  simp[h0];refine(uC h n).same ?_;simp[hu]
  simpa using fin
end
section
variable {st st':St} {p a:Nat} {lg:CV} {M:bS} {bd bn bi bc:Nat} {F:List Nat} {D:aT}
def bS.get (M:bS)(D:aT)(n:Nat):jl:=match dg M.now n with|some s=>s|none=>match dg M.dirty n with|some s=>s|none=>D.cur (M.first+n)
theorem IK (s:jl)(h:s.length=512):bp (zr 512) 0 (ai s)=ai s:=dY _ _ (by rw[bJ,h];exact List.length_replicate.symm)
theorem pA:(zr 512).length=512:=aBt
theorem LQ:aV (zr 512)=true:=by rw[ng];exact bB _
theorem kS {s:St}{T:List CV}{K:CV->St->Prop}(hl:T.length=512)(ho:aV T=true)(hK:K (.ptr s.next 0) (St.set (St.new s (.cells (zr 512) 173 false)) s.next (.cells T 173 false))):
 upon (dD 173 (zr 512) s) fun x s2=>upon (aP 512 x (.agg T) s2) fun _ s3=>K x s3:=by
 rw[cG,aS,aF,au];have:bp (zr 512) 0 T=T:=dY _ _ (by rw[hl];exact pA.symm);rw[aR,aX,this];exact⟨⟨hl,ho,by rw[pA];exact aAE _⟩,hK⟩
theorem Kp.page {X:List Nat}{s s2:St}(h:Kp X s s2)(T:List CV):Kp X s (St.set (St.new s2 (.cells (zr 512) 173 false)) s2.next (.cells T 173 false)):=(h.new _).set _ (.inr h.next) (by simp)
theorem xA (h:cA st p a lg M bd bn bi bc)(hd:du st a F D)(qI:D.dead=false){n:Nat}(hn:M.first+n<D.ay.length)(hs:(M.get D n).length=512):
 R 123 [.ptr p 0,I n] st fun v st'=>v= .tuple [.agg (ai (M.get D n)),I 0]/\Kp [] st st':=by
 refine bN ?_;rw[ahs];have hsz:=(show D.ay.length<=65536 from by obtain⟨_,_,_,_,_,_,_,h⟩:=hd;exact h.size);have k1:Kp [] st (St.new st (.cells (zr 512) 173 false)):=(Kp.refl [] st).new _;have g1:(St.new st (.cells (zr 512) 173 false)).mem.get st.next=some (.cells (zr 512) 173 false):=au _ _;have n1:(St.new st (.cells (zr 512) 173 false)).next=st.next+1:=rfl;rw[cG,aS];generalize St.new st (.cells (zr 512) 173 false)=s1 at*;have h1:=h.keep k1 (by simp);have wb:=IsMap.lookup (.inl h1.now) (.agg (zr 512)) true n s1 rfl;rw[aAI rfl,uK]at wb;simp only[fm,br,ah,af,aA,h1.main,aq,aAF,aAA,aAy,av,wb,aD,aN]
 have fin:∀(s:St) (T:jl),T.length=512->T=M.get D n->Kp [] st s->s.mem.get st.next=some (.cells (zr 512) 173 false)->st.next<s.next->
  upon (aP 512 (.ptr st.next 0) (.agg (ai T)) s) fun _ s4=>us (aI 512 (.ptr st.next 0) s4) fun x8=>(CV.tuple [x8,I 0]= .tuple [.agg (ai (M.get D n)),I 0]/\Kp [] st s4):=by
  intro s T hT he hk hg hlt;rw[aF,hg,aR,aX,IK T hT];have zP:(ai T).length=512:=by simpa using hT
  refine⟨⟨zP,bB _,by rw[pA];exact aAE _⟩, ?_⟩;rw[aQ (n:=512) (ao s st.next (.cells (ai T) 173 false)) zP,af];exact⟨by rw[he],hk.set _ (.inr (aAE _)) hlt⟩
 cases hp:dg M.now n with
 |some T=>
  have he:T=M.get D n:=by unfold bS.get;rw[hp]
  have hT:T.length=512:=by rw[he];exact hs
  have zP:(ai T).length=512:=by simpa using hT
  simp only[aBL,aCc,Option.isSome_some];refine kS zP (bB _) ?_;rw[ag,aAI rfl,aQ (n:=512) (ao (St.new s1 (.cells (zr 512) 173 false)) s1.next (.cells (ai T) 173 false)) zP,af];exact fin _ T hT he (k1.page _) (by rw[al _ _ _ _ (by omega),aZ _ _ _ (by omega)];exact g1) (by simp;omega)
 |none=>
  simp only[Option.map_none,Option.getD_none,Option.isSome_none];refine kS pA LQ ?_;have k3:=k1.page (zr 512);have g3:(St.set (St.new s1 (.cells (zr 512) 173 false)) s1.next (.cells (zr 512) 173 false)).mem.get st.next=some (.cells (zr 512) 173 false):=by rw[al _ _ _ _ (by omega),aZ _ _ _ (by omega)];exact g1
  have n3:(St.set (St.new s1 (.cells (zr 512) 173 false)) s1.next (.cells (zr 512) 173 false)).next=s1.next+1:=rfl;generalize St.set (St.new s1 (.cells (zr 512) 173 false)) s1.next (.cells (zr 512) 173 false)=s3 at*;have h3:=h.keep k3 (by simp);have Kx:=IsMap.lookup h3.dirty (.agg (zr 512)) true n s3 rfl;rw[aAI rfl,uK]at Kx;simp only[ag,aAz,aAO,fm,br,ah,af,aA,h3.main,aq,aAF,aAA,aAy,av,Kx,aD,aN];cases hq:dg M.dirty n with
  |some T=>
   have he:T=M.get D n:=by unfold bS.get;rw[hp,hq]
   have hT:T.length=512:=by rw[he];exact hs
   have zP:(ai T).length=512:=by simpa using hT
   simp only[aBL,aCc,Option.isSome_some];refine kS zP (bB _) ?_;rw[aAI trivial,aQ (n:=512) (ao (St.new s3 (.cells (zr 512) 173 false)) s3.next (.cells (ai T) 173 false)) zP,af];exact fin _ T hT he (k3.page _) (by rw[al _ _ _ _ (by omega),aZ _ _ _ (by omega)];exact g3) (by simp;omega)
  |none=>
   have he:D.cur (M.first+n)=M.get D n:=by unfold bS.get;rw[hp,hq]
   simp only[Option.map_none,Option.getD_none,Option.isSome_none];refine kS pA LQ ?_;have k5:=k3.page (zr 512);have g5:(St.set (St.new s3 (.cells (zr 512) 173 false)) s3.next (.cells (zr 512) 173 false)).mem.get st.next=some (.cells (zr 512) 173 false):=by rw[al _ _ _ _ (by omega),aZ _ _ _ (by omega)];exact g3
   have n5:(St.set (St.new s3 (.cells (zr 512) 173 false)) s3.next (.cells (zr 512) 173 false)).next=s3.next+1:=rfl;generalize St.set (St.new s3 (.cells (zr 512) 173 false)) s3.next (.cells (zr 512) 173 false)=s5 at*;have h5:=h.keep k5 (by simp);have d5:=hd.keep k5 (by simp);have a1:aj .add none false (I M.first) (I n) s5= .ok (I ((M.first+n:Nat):Int)) s5:=by rw[aw,cE,bz (by omega)];rfl
   simp only[ag,aAz,aAO,bt,br,ah,af,aA,h5.main,aq,aAF,aAA,aAy,av,a1];refine(xz d5 ((M.first+n:Nat):Int)).mono ?_;intro x s8 hx
   have er:D.read ((M.first+n:Nat):Int)=(0,D.cur (M.first+n)):=by
    unfold aT.read;rw[aAH (by simp[qI]),aAH (by omega),aDl]
   rw[er,aAI rfl]at hx;obtain⟨k8,hl,b,rfl,g8,b1,b2⟩:=hx;have n8:=k8.next;have Gj:nZ 512 (.slice b 0 512 512 1) s8= .ok (.ptr b 0) s8:=rfl;have LG:(ai (D.cur (M.first+n))).length=512:=by simpa using hl
   simp only[aD,aN,af,aw,ff,aBA,aAU,ag,aAz,aAO,Gj,aQ g8 LG];refine⟨⟨trivial,trivial,trivial⟩,trivial, ?_⟩;exact fin s8 _ hl he (k5.trans k8 (by simp)) ((k8.keep _ (by omega) (by simp)).trans g5) (by omega)
end
section
variable {st st':St} {p a:Nat} {lg:CV} {M:bS} {bd bn bi bc:Nat} {F:List Nat} {D:aT}
theorem MI (h:cA st p a lg M bd bn bi bc)(hd:du st a F D)(qI:D.dead=false){n:Nat}(hu:M.bP n)(hn:M.first+n<D.ay.length)(hs:(M.get D n).length=512):
 R 137 [.ptr p 0,I n] st fun v st'=>Got (M.get D n) st v st':=by
 refine bN ?_;rw[ahj];simp only[cU,af,ag,aAz,aAO];refine(uC h n).same ?_;simp only[hu,aBA,dm,af,aAU,ag,aAz,aAO];refine(xA h hd qI hn hs).mono ?_;rintro _ s2 ⟨rfl,k2⟩;have zP:(ai (M.get D n)).length=512:=by simpa using hs
 simp only[aD,aN,af];refine kS zP (bB _) ?_;have k4:=k2.page (ai (M.get D n));have g4:(St.set (St.new s2 (.cells (zr 512) 173 false)) s2.next (.cells (ai (M.get D n)) 173 false)).mem.get s2.next=some (.cells (ai (M.get D n)) 173 false):=ao _ _ _;have n4:(St.set (St.new s2 (.cells (zr 512) 173 false)) s2.next (.cells (ai (M.get D n)) 173 false)).next=s2.next+1:=rfl;generalize St.set (St.new s2 (.cells (zr 512) 173 false)) s2.next (.cells (ai (M.get D n)) 173 false)=s4 at*;have zM:bR 512 1 (.ptr s2.next 0) none none s4= .ok (.slice s2.next 0 512 512 0) s4:=rfl;simp only[aw,ff,aBA,aAU,af,ag,aAz,aAO,zM];have kL:Sl s4 [] (.slice s2.next 0 512 512 0) 1 (ai (M.get D n)):= .inr ⟨s2.next,0,512,512,0,rfl,by omega,⟨aAE _, .inl rfl⟩, .inr ⟨by simp,by omega,_,_,_,g4,by omega,by rw[aBg,aAK (by omega)]⟩⟩;refine(vy kL (by omega)).mono ?_;rintro x s5 ⟨F',q1,q2,q3,q4⟩;obtain⟨b,n',r1,r2,r3,r4,r5⟩:=q2.row (by omega);have:n'=512:=by omega
 subst this;have hb:=q3 b (by simp[r1]);exact⟨k4.trans q1 (by simp),hs,b,by rw[r3],r5,by have:=k4.next;omega,hb.2⟩
theorem xD {s:St}{T:jl}{n:Nat}(h:cA s p a lg M bd bn bi bc):
 ∃v1 e1 mD v2 e2 lO s5,fA .int (.agg (zr 512)) (.map bn) (I n) s= .ok (.tuple [v1,I e1]) (St.set s bn mD)/\
  (∃pq,dO (.map bn) (I e1) (.agg (ai T)) (St.set s bn mD)= .ok .undef (St.set s bn pq)/\
  fA .int (.bool false) (.map bc) (I n) (St.set s bn pq)= .ok (.tuple [v2,I e2]) (St.set (St.set s bn pq) bc lO)/\
  dO (.map bc) (I e2) (.bool true) (St.set (St.set s bn pq) bc lO)= .ok .undef s5)/\Kp [bn,bc] s s5/\s5.next=s.next/\cA s5 p a lg {M with now:=gD M.now n T,count:=mN M.count n} bd bn bi bc:=by
 have nd:=h.nd;simp only[aAQ,aAD,aBo,aCg,aBY]at nd;obtain⟨⟨n1,n2,n3,n4⟩,⟨n5,n6,n7⟩,⟨n8,n9⟩,M5,_⟩:=nd;obtain⟨v1,e1,mD,a1,a2⟩:=h.now.entry (.agg (zr 512)) n;obtain⟨pq,a3,a4⟩:=a2 (.agg (ai T)) _ (ao s bn mD);rw[set_set]at a3 a4;have hc:da (St.set s bn pq) bc (sS M.count):=h.count.mono (al _ _ _ _ (aBE n9));obtain⟨v2,e2,lO,b1,b2⟩:=hc.entry (.bool false) n;obtain⟨aec,b3,b4⟩:=b2 (.bool true) _ (ao (St.set s bn pq) bc lO);rw[set_set]at b3 b4;rw[uJ]at a4;rw[xX]at b4;have l1:=h.lt bn (by simp);have l2:=h.lt bc (by simp);have kk:∀q,q≠bn->q≠bc->(St.set (St.set s bn pq) bc aec).mem.get q=s.mem.get q:=fun q h1 h2=>(al _ _ _ _ h2).trans (al _ _ _ _ h1);refine⟨v1,e1,mD,v2,e2,lO,_,a1,⟨pq,a3,b1,b3⟩,((Kp.refl _ s).set _ (.inl (by simp)) l1).set _ (.inl (by simp)) l2,rfl, ?_,h.dirty.mono (kk bd n5 n7),a4.mono (al _ _ _ _ n9),h.idle.mono (kk bi (aBE n8) M5),b4,h.nd,h.lt,h.lgs⟩;exact(kk p n2 n4).trans h.main
theorem JZ (h:cA st p a lg M bd bn bi bc){n:Nat}(hu:M.bP n){v:CV}{T:jl}(hv:Sl st [bn,bc] v 1 (ai T))(hT:T.length=512):
 R 99 [.ptr p 0,I n,v] st fun x st'=>x=I 0/\Kp [bn,bc] st st'/\st'.next=st.next/\cA st' p a lg {M with now:=gD M.now n T,count:=mN M.count n} bd bn bi bc:=by
 refine bN ?_;rw[w99];simp only[cU,af,ag,aAz,aAO];refine(uC h n).same ?_;have hlen:=hv.len 512 (by simp[hT]) (by omega) st;simp only[hu,aBA,dm,af,aAU,aH,aAz,aAO,aAT,bo,hlen];have e1:aj .neq (some .int) true (I ((512:Nat):Int)) (.int .i64 512) st= .ok (.bool false) st:=rfl;obtain⟨v1,i1,mD,v2,i2,lO,s5,a1,⟨pq,a2,a3,a4⟩,a5,a6,a7⟩:=xD (T:=T) (n:=n) h
 have LD:∃bv off,nZ 512 v st= .ok (.ptr bv off) st/\bv≠bn/\∃l t g,st.mem.get bv=some (.cells l t g)/\off+512<=l.length/\(l.drop off).take 512=ai T:=by
  rcases hv with⟨_,h⟩|⟨b,off,len,cap,grow,rfl,h2,h3,h4⟩
  ·have:=congrArg List.length h;simp[hT]at this
  ·have:len=512:=by simp[hT]at h2;omega
   subst this;rcases h4 with h4|⟨h5,h6,l,t,g,h7,h8,h9⟩
   ·cases h4
   ·refine⟨b,off, ?_,fun e=>h5 (by simp[e]),l,t,g,h7,by omega,by simpa using h9⟩;have e:nZ 512 (.slice b off 512 cap grow) st=bu (Bool.and (Nat.ble 512 512) (Bool.or (Nat.beq grow 0) (Bool.and (Nat.ble 1 cap) (Nat.ble 512 cap)))) (.ok (.ptr b off) st) .bad:=rfl;rw[e,aO,aAI (by simp only[aAV,aBB,aBe,aBi];omega)]
 obtain⟨bv,off,b1,b2,l,t,g,b3,b4,b5⟩:=LD;have b6:aI 512 (.ptr bv off) st= .ok (.agg (ai T)) st:=by rw[gH b3 b4,b5]
 have b7:aI 512 (.ptr bv off) (St.set st bn mD)= .ok (.agg (ai T)) (St.set st bn mD):=by rw[gH ((al _ _ _ _ b2).trans b3) b4,b5]
 simp only[e1,af,aG,aAz,aAO,ag,bt,br,ah,aA,h.main,aq,aAF,aAA,aAy,av,b1,b6,a1,aS,aD,aN,a2,a3,a4,b7];exact⟨⟨trivial,trivial,⟨trivial,trivial⟩,trivial⟩,trivial,trivial,a5,a6,a7⟩
end
section
variable {st st':St} {p a:Nat} {lg:CV} {M:bS} {bd bn bi bc:Nat} {F:List Nat} {D:aT}
theorem X8 (l:List UInt8):nb l<256^l.length:=by
 have key:∀k (l:List UInt8),l.length=k->nb l<256^k:=by
  intro k
  induction k with
  |zero=>intro l h;have:l=[]:=aBa.1 h;subst this;simp[nb]
  |succ k ih=>
   intro l h;have gL:l≠[]:=fun e=>by subst e;simp at h
   have e:=List.dropLast_concat_getLast gL;have h1:=ih l.dropLast (by simp[h]);have h2:=(l.getLast gL).toNat_lt;rw[<-e,rJ,aDj];omega
 exact key _ l rfl
theorem sL (l:List UInt8)(h:l.length<=4)(i:Nat):nb (l.take i)<=4611686018427387904:=by
 have h1:=X8 (l.take i);have h2:(l.take i).length<=4:=by rw[aAN];omega
 have h3:256^(l.take i).length<=256^4:=Nat.pow_le_pow_right (by omega) h2;omega
theorem cA.Cy (h:cA st p a lg M bd bn bi bc)(m':jB):Kp [p] st (St.set st p (.cells [.ptr a 0,lg,I M.first,I M.aE, .map bd, .map bn,I M.kept.root,I M.kept.used,I M.kept.head,I M.kept.free,I m'.root,I m'.used,I m'.head,I m'.free, .map bi, .map bc] 158 false))/\
 cA (St.set st p (.cells [.ptr a 0,lg,I M.first,I M.aE, .map bd, .map bn,I M.kept.root,I M.kept.used,I M.kept.head,I M.kept.free,I m'.root,I m'.used,I m'.head,I m'.free, .map bi, .map bc] 158 false)) p a lg {M with m:=m'} bd bn bi bc:=by
 have nd:=h.nd;simp only[aAQ,aAD,aBo,aCg,aBY]at nd;exact⟨(Kp.refl _ st).set _ (.inl (by simp)) (h.lt p (by simp)),ao _ _ _,h.dirty.mono (al _ _ _ _ (aBE nd.1.1)),h.now.mono (al _ _ _ _ (aBE nd.1.2.1)),h.idle.mono (al _ _ _ _ (aBE nd.1.2.2.1)),h.count.mono (al _ _ _ _ (aBE nd.1.2.2.2)),h.nd,h.lt,h.lgs⟩
def bS.zx (M:bS):bS:={M with m:={M.m with used:=M.m.used+1},now:=gD M.now M.m.used kN,count:=mN M.count M.m.used}
def bS.wx (M:bS)(D:aT):bS:={M with m:={M.m with head:=nb ((M.get D M.m.head).take 4),free:=M.m.free-1},idle:=xZ M.idle M.m.head,now:=gD M.now M.m.head kN,count:=mN M.count M.m.head}
theorem Im:zr 512=ai kN:=ng 512
theorem IJ (s:St):bD (zr 512) [] s= .ok (.agg (zr 512)) s:=by rw[dN,kv]
theorem Lh (h:cA st p a lg M bd bn bi bc)(h1:M.aE<=1000000)(h2:M.m.used<=1000000)(h3:M.m.free<=1000000)(hf:M.cJ≠0)(h0:M.m.head=0):
 R 97 [.ptr p 0] st fun v st'=>v= .tuple [I M.m.used,I 0]/\Kp [p,bn,bc] st st'/\st'.next=st.next/\cA st' p a lg M.zx bd bn bi bc:=by
 refine bN ?_;rw[w97];simp only[cU,af,ag,aAz,aAO];refine(ym h h1 h2 h3).same ?_;have e1:aj .eql (some .int) true (I M.cJ) (.int .i64 0) st= .ok (.bool false) st:=by rw[aw,cz,aAB hf]
 have e2:aj .eql (some .int) true (I M.m.head) (.int .i64 0) st= .ok (.bool true) st:=by rw[h0];rfl
 have e3:aj .add none true (I M.m.used) (.int .i64 1) st= .ok (I ((M.m.used+1:Nat):Int)) st:=by rw[aw,cE,bz (by omega)];rfl
 have jZ:bp [.ptr a 0,lg,I M.first,I M.aE, .map bd, .map bn,I M.kept.root,I M.kept.used,I M.kept.head,I M.kept.free,I M.m.root,I M.m.used,I M.m.head,I M.m.free, .map bi, .map bc] 11 [I ((M.m.used+1:Nat):Int)]=[.ptr a 0,lg,I M.first,I M.aE, .map bd, .map bn,I M.kept.root,I M.kept.used,I M.kept.head,I M.kept.free,I M.m.root,I ((M.m.used+1:Nat):Int),I M.m.head,I M.m.free, .map bi, .map bc]:=rfl;obtain⟨k2,g2⟩:=h.Cy {M.m with used:=M.m.used+1};simp only[e1,af,ag,aAz,aAO,ru,br,ah,aA,h.main,aq,aAF,Nat.reduceAdd,aAA,aAy,av,e2,aAY,e3,zT,aF,aR,iC,jZ];refine⟨⟨rfl,rfl,by simp⟩, ?_⟩;have n2:(St.set st p (.cells [.ptr a 0,lg,I M.first,I M.aE, .map bd, .map bn,I M.kept.root,I M.kept.used,I M.kept.head,I M.kept.free,I M.m.root,I ((M.m.used+1:Nat):Int),I M.m.head,I M.m.free, .map bi, .map bc] 158 false)).next=st.next:=rfl;simp only at k2 g2;generalize St.set st p (.cells [.ptr a 0,lg,I M.first,I M.aE, .map bd, .map bn,I M.kept.root,I M.kept.used,I M.kept.head,I M.kept.free,I M.m.root,I ((M.m.used+1:Nat):Int),I M.m.head,I M.m.free, .map bi, .map bc] 158 false)=s2 at*;obtain⟨v1,i1,mD,v2,i2,lO,s5,a1,⟨pq,a2,a3,a4⟩,a5,a6,a7⟩:=xD (T:=kN) (n:=M.m.used) g2;rw[<-Im]at a2;have hm:=g2.main;simp only[bt,br,ah,af,aA,hm,aq,aAF,aAA,aAy,av,IJ,a1,aS,aD,aN,a2,a3,a4];refine⟨⟨trivial,trivial,trivial⟩,trivial,trivial,(k2.mono (by simp)).trans a5 (by simp),by omega,a7⟩
end
section
variable {st st':St} {p a:Nat} {lg:CV} {M:bS} {bd bn bi bc:Nat} {F:List Nat} {D:aT}
def eN (h:Nat):jl:=be 4 h++List.replicate 508 0
theorem rq (h:Nat):(eN h).length=512:=by
 unfold eN;rw[aAG,gU,aBt]
theorem Kd (h:Nat):bp (zr 512) 0 (ai (be 4 h))=ai (eN h):=by
 unfold bp eN;rw[bE,aCr,aBf,bJ,gU,ng]
 congr 1
def bS.drop (M:bS)(n:Nat):bS:={M with m:={M.m with head:=n,free:=M.m.free+1},now:=gD M.now n (eN M.m.head),count:=mN M.count n,idle:=mN M.idle n}
theorem Sh (h:cA st p a lg M bd bn bi bc){n:Nat}(hu:M.bP n)(h3:M.m.free<=1000000)(h4:M.m.head<=1000000):
 R 95 [.ptr p 0,I n] st fun v st'=>v=I 0/\Kp [p,bn,bi,bc] st st'/\cA st' p a lg (M.drop n) bd bn bi bc:=by
 refine bN ?_;rw[w95];simp only[cU,af,ag,aAz,aAO];refine(uC h n).same ?_;have k2:Kp [] st (St.new st (.cells (zr 512) 173 false)):=(Kp.refl [] st).new _;have g2:(St.new st (.cells (zr 512) 173 false)).mem.get st.next=some (.cells (zr 512) 173 false):=au _ _;have n2:(St.new st (.cells (zr 512) 173 false)).next=st.next+1:=rfl;simp only[hu,aBA,dm,af,aAU,ag,aAz,aAO,cG,aS,bt];generalize St.new st (.cells (zr 512) 173 false)=s2 at*;have zM:bR 512 1 (.ptr st.next 0) none (some (.int .i64 4)) s2= .ok (.slice st.next 0 4 512 0) s2:=rfl;have h2:=h.keep k2 (by simp);have PF:=h2.main;simp only[zM,af,br,ah,aA,PF,aq,aAF,Nat.reduceAdd,aAA,aAy,av];refine(G9 (n:=M.m.head) (len:=4) (off:=0) (cap:=512) g2 (by omega) (by rw[pA];decide) (by omega) (by omega)).mono ?_;rintro _ s3 ⟨k3,n3,g3⟩;rw[Kd]at g3;have E4:(ai (eN M.m.head)).length=512:=by simp[rq]
 have EU:∀b∈[p,bd,bn,bi,bc],b∉[st.next]:=fun b hb=>by have:=h.lt b hb;simp;omega
 have h3':=h2.keep k3 EU;have Y0:=h3'.main;obtain⟨v1,i1,mD,v2,i2,lO,s7,a1,⟨pq,a2,a3,a4⟩,a5,a6,a7⟩:=xD (T:=eN M.m.head) (n:=n) h3';have b6:aI 512 (.ptr st.next 0) s3= .ok (.agg (ai (eN M.m.head))) s3:=aQ g3 E4;have Dy:st.next≠bn:=fun e=>by have:=h.lt bn (by simp);omega
 have b7:aI 512 (.ptr st.next 0) (St.set s3 bn mD)= .ok (.agg (ai (eN M.m.head))) (St.set s3 bn mD):=aQ ((al _ _ _ _ Dy).trans g3) E4;have YZ:=a7.main;have e3:∀s,aj .add none true (I M.m.free) (.int .i64 1) s= .ok (I ((M.m.free+1:Nat):Int)) s:=fun s=>by rw[aw,cE,bz (by omega)];rfl
 obtain⟨k9,g9⟩:=a7.Cy {M.m with head:=n,free:=M.m.free+1};have qA:bp [.ptr a 0,lg,I M.first,I M.aE, .map bd, .map bn,I M.kept.root,I M.kept.used,I M.kept.head,I M.kept.free,I M.m.root,I M.m.used,I M.m.head,I M.m.free, .map bi, .map bc] 12 [I n]=[.ptr a 0,lg,I M.first,I M.aE, .map bd, .map bn,I M.kept.root,I M.kept.used,I M.kept.head,I M.kept.free,I M.m.root,I M.m.used,I n,I M.m.free, .map bi, .map bc]:=rfl;have kG:bp [.ptr a 0,lg,I M.first,I M.aE, .map bd, .map bn,I M.kept.root,I M.kept.used,I M.kept.head,I M.kept.free,I M.m.root,I M.m.used,I n,I M.m.free, .map bi, .map bc] 13 [I ((M.m.free+1:Nat):Int)]=[.ptr a 0,lg,I M.first,I M.aE, .map bd, .map bn,I M.kept.root,I M.kept.used,I M.kept.head,I M.kept.free,I M.m.root,I M.m.used,I n,I ((M.m.free+1:Nat):Int), .map bi, .map bc]:=rfl;obtain⟨blk,u1,u2,u3⟩:=IsMap.update (.inl g9.idle) n (.bool true);simp only at k9 g9 u1 u2 u3;simp only[br,ah,af,aA,Y0,aq,aAF,Nat.reduceAdd,aAA,aAy,av,b6,b7,a1,aS,aD,aN,a2,a3,a4,ru,YZ,e3,zT,aF,aR,iC,qA,ao,kG,set_set,fm,u1];have nd:=h.nd;simp only[aAQ,aAD,aBo,aCg,aBY]at nd;obtain⟨⟨m1,m2,m3,m4⟩,⟨m5,m6,m7⟩,⟨m8,m9⟩,m10,_⟩:=nd;refine⟨⟨trivial,trivial⟩,trivial,⟨trivial,trivial,⟨trivial,trivial⟩,trivial⟩,trivial,⟨rfl,rfl,by simp⟩,⟨rfl,rfl,by simp⟩,trivial, ?_, ?_⟩
 ·have q1:Kp [p,bn,bi,bc] st s3:=(k2.trans k3 (by simp)).mono (by simp);have q2:Kp [p,bn,bi,bc] st s7:=q1.trans a5 (by simp);refine(q2.trans k9 (by simp)).set _ (.inl (by simp)) ?_;have:=g9.lt bi (by simp);exact this
 ·have u4:=u3 g9.idle;rw[xX]at u4;exact⟨(al _ _ _ blk m3).trans g9.main,g9.dirty.mono (al _ _ _ blk m6),g9.now.mono (al _ _ _ blk m8),u4,g9.count.mono (al _ _ _ blk (aBE m10)),h.nd,g9.lt,h.lgs⟩
end
section
variable {st st':St} {p a:Nat} {lg:CV} {M:bS} {bd bn bi bc:Nat} {F:List Nat} {D:aT}
theorem Lg (h:cA st p a lg M bd bn bi bc)(hd:du st a F D)(qI:D.dead=false)(h1:M.aE<=1000000)(h2:M.m.used<=1000000)(h3:M.m.free<=1000000)(hf:M.cJ≠0)(TL:0<M.m.free)(h0:M.m.head≠0)
 (hn:M.first+M.m.head<D.ay.length) (hs:(M.get D M.m.head).length=512):
 R 97 [.ptr p 0] st fun v st'=>v= .tuple [I M.m.head,I 0]/\Kp [p,bn,bi,bc] st st'/\cA st' p a lg (M.wx D) bd bn bi bc:=by
 refine bN ?_;rw[w97];simp only[cU,af,ag,aAz,aAO];refine(ym h h1 h2 h3).same ?_;have e1:aj .eql (some .int) true (I M.cJ) (.int .i64 0) st= .ok (.bool false) st:=by rw[aw,cz,aAB hf]
 have e2:aj .eql (some .int) true (I M.m.head) (.int .i64 0) st= .ok (.bool false) st:=by rw[aw,cz,aAB (by omega)]
 simp only[e1,af,ag,aAz,aAO,ru,br,ah,aA,h.main,aq,aAF,Nat.reduceAdd,aAA,aAy,av,e2];refine(xA h hd qI hn hs).mono ?_;rintro _ s7 ⟨rfl,k7⟩;have zP:(ai (M.get D M.m.head)).length=512:=by simpa using hs
 simp only[aD,aN,af];refine kS zP (bB _) ?_;have k9:=k7.page (ai (M.get D M.m.head));have g9:(St.set (St.new s7 (.cells (zr 512) 173 false)) s7.next (.cells (ai (M.get D M.m.head)) 173 false)).mem.get s7.next=some (.cells (ai (M.get D M.m.head)) 173 false):=ao _ _ _;have n9:(St.set (St.new s7 (.cells (zr 512) 173 false)) s7.next (.cells (ai (M.get D M.m.head)) 173 false)).next=s7.next+1:=rfl;generalize St.set (St.new s7 (.cells (zr 512) 173 false)) s7.next (.cells (ai (M.get D M.m.head)) 173 false)=s9 at*;have h9:=h.keep k9 (by simp);have hm9:=h9.main;have zM:bR 512 1 (.ptr s7.next 0) none (some (.int .i64 4)) s9= .ok (.slice s7.next 0 4 512 0) s9:=rfl;have yO:ai ((M.get D M.m.head).take 4)=(ai (M.get D M.m.head)).take 4:=by simp[ai]
 have kL:Sl s9 [] (.slice s7.next 0 4 512 0) 1 (ai ((M.get D M.m.head).take 4)):= .inr ⟨s7.next,0,4,512,0,rfl,by rw[yO,aAN];omega,⟨by omega, .inl rfl⟩, .inr ⟨by simp,by omega,_,_,_,g9,by omega,by rw[aBg,yO]⟩⟩;simp only[aw,ff,aBA,aAU,af,ag,aAz,aAO,bt,zM];have hl4:((M.get D M.m.head).take 4).length<=4:=by rw[aAN];omega
 refine(rZ kL (by omega) (sL _ hl4)).same ?_;have e3:∀s,ju .sub .i64 (M.m.free:Int) .i64 1 s= .ok (I ((M.m.free-1:Nat):Int)) s:=fun s=>by rw[dW,bz (by omega)];congr 2;omega
 obtain⟨qH,sy⟩:=h9.Cy {M.m with head:=nb ((M.get D M.m.head).take 4),free:=M.m.free-1};have qA:bp [.ptr a 0,lg,I M.first,I M.aE, .map bd, .map bn,I M.kept.root,I M.kept.used,I M.kept.head,I M.kept.free,I M.m.root,I M.m.used,I M.m.head,I M.m.free, .map bi, .map bc] 12 [I (nb ((M.get D M.m.head).take 4))]=[.ptr a 0,lg,I M.first,I M.aE, .map bd, .map bn,I M.kept.root,I M.kept.used,I M.kept.head,I M.kept.free,I M.m.root,I M.m.used,I (nb ((M.get D M.m.head).take 4)),I M.m.free, .map bi, .map bc]:=rfl;have kG:bp [.ptr a 0,lg,I M.first,I M.aE, .map bd, .map bn,I M.kept.root,I M.kept.used,I M.kept.head,I M.kept.free,I M.m.root,I M.m.used,I (nb ((M.get D M.m.head).take 4)),I M.m.free, .map bi, .map bc] 13 [I ((M.m.free-1:Nat):Int)]=[.ptr a 0,lg,I M.first,I M.aE, .map bd, .map bn,I M.kept.root,I M.kept.used,I M.kept.head,I M.kept.free,I M.m.root,I M.m.used,I (nb ((M.get D M.m.head).take 4)),I ((M.m.free-1:Nat):Int), .map bi, .map bc]:=rfl;obtain⟨ep,u1,u2,u3⟩:=sy.idle.delete (M.m.head:Int);simp only at qH sy u1 u2 u3;have nd:=h.nd;simp only[aAQ,aAD,aBo,aCg,aBY]at nd;obtain⟨⟨m1,m2,m3,m4⟩,⟨m5,m6,m7⟩,⟨m8,m9⟩,m10,_⟩:=nd;have hb9:=sy.lt bi (by simp);rw[Mp]at u3;generalize amv:St.set s9 p (.cells [.ptr a 0,lg,I M.first,I M.aE, .map bd, .map bn,I M.kept.root,I M.kept.used,I M.kept.head,I M.kept.free,I M.m.root,I M.m.used,I (nb ((M.get D M.m.head).take 4)),I ((M.m.free-1:Nat):Int), .map bi, .map bc] 158 false)=bU at*
 have qG:Kp [bi] bU ep:=by
  rcases u2 with rfl|⟨blk,rfl⟩
  ·exact Kp.refl _ _
  ·exact(Kp.refl _ bU).set _ (.inl (by simp)) hb9
 have kk:∀q∈[p,bd,bn,bi,bc],q≠bi->ep.mem.get q=bU.mem.get q:=fun q hq gL=>qG.keep q (sy.lt q hq) (by simpa using gL)
 have h13:cA ep p a lg {M with m:={M.m with head:=nb ((M.get D M.m.head).take 4),free:=M.m.free-1},idle:=xZ M.idle M.m.head} bd bn bi bc:=
  ⟨(kk p (by simp) m3).trans sy.main,sy.dirty.mono (kk bd (by simp) m6),sy.now.mono (kk bn (by simp) m8),u3,sy.count.mono (kk bc (by simp) (aBE m10)),h.nd,fun b hb=>aAZ (sy.lt b hb) qG.next,h.lgs⟩
 obtain⟨v1,i1,mD,v2,i2,lO,kO,a1,⟨pq,a2,a3,a4⟩,a5,a6,a7⟩:=xD (T:=kN) (n:=M.m.head) h13;rw[<-Im]at a2;have akJ:=h13.main;have NF:=sy.main;simp only[br,ah,af,aA,hm9,aq,aAF,Nat.reduceAdd,aAA,aAy,av,aw,e3,aF,aR,iC,qA,ao,kG,set_set,amv,fm,NF,u1,aS,akJ,IJ,a1,aD,aN,a2,a3,a4];have kA:Kp [p,bn,bi,bc] st bU:=(k9.mono (by simp)).trans qH (by simp);have kB:Kp [p,bn,bi,bc] st ep:=kA.trans qG (by simp);exact⟨⟨rfl,rfl,by simp⟩,⟨rfl,rfl,by simp⟩,⟨⟨trivial,trivial⟩,trivial⟩,trivial,⟨trivial,trivial,trivial⟩,trivial,trivial,kB.trans a5 (by simp),a7⟩
end
section
variable {st st':St} {p a:Nat} {lg:CV} {M:bS} {bd bn bi bc:Nat} {F:List Nat} {D:aT}
theorem oQ (hd:du st a F D):R 70 [.ptr a 0] st fun v st'=>v=I ((D.ay.length/4:Nat):Int)/\st'=st:=by
 refine bN ?_;rw[w70];refine(tX hd).same ?_;have hsz:=(show D.ay.length<=65536 from by obtain⟨_,_,_,_,_,_,_,h⟩:=hd;exact h.size)
 have e:aj .quo none true (I D.ay.length) (.int .i64 4) st= .ok (I ((D.ay.length/4:Nat):Int)) st:=by
  have e0:aj .quo none true (I D.ay.length) (.int .i64 4) st= .ok (I (IntKind.i64.wrap (Int.tdiv D.ay.length 4))) st:=rfl;have e1:Int.tdiv (D.ay.length:Int) 4=((D.ay.length/4:Nat):Int):=rfl;rw[e0,e1,bz (by omega)]
 rw[e,af];exact⟨rfl,rfl⟩
def dw (base:Nat):jl:=[98,117,116,116,101,114,121,49]++be 8 base++List.replicate 496 0
theorem pY (base:Nat):(dw base).length=512:=by
 unfold dw;simp only[aAG,gU,aBt,aBb,aCb]
def aT.head (D:aT)(base:Nat):Int×aT:=if (D.write 0 (dw base)).1=0 then (D.write 0 (dw base)).2.flush else D.write 0 (dw base)
theorem Jj (hf:cY st)(hd:du st a F D)(hw:D.waits.length<90000000){base:Nat}(hb:base<9223372036854775808):R 89 [.ptr a 0,I base] st fun v st'=>v=I (D.head base).1/\rK a F st (D.head base).2 st':=by
 refine bN ?_;rw[w89];have k1:Kp [] st (St.new st (.cells (zr 512) 173 false)):=(Kp.refl [] st).new _;have g1:(St.new st (.cells (zr 512) 173 false)).mem.get st.next=some (.cells (zr 512) 173 false):=au _ _;have n1:(St.new st (.cells (zr 512) 173 false)).next=st.next+1:=rfl;rw[cG,aS];generalize St.new st (.cells (zr 512) 173 false)=s1 at*;have zM:∀s,bR 512 1 (.ptr st.next 0) none none s= .ok (.slice st.next 0 512 512 0) s:=fun s=>rfl
 have Xo:gj true 1 (.slice st.next 0 512 512 0) (.str [98,117,116,116,101,114,121,49]) s1= .ok (I 8) (St.set s1 st.next (.cells (bp (zr 512) 0 (ai [98,117,116,116,101,114,121,49])) 173 false)):=by
  have e:gj true 1 (.slice st.next 0 512 512 0) (.str [98,117,116,116,101,114,121,49]) s1=(match s1.mem.get st.next with
   |some (.cells s ty g)=>Option.rec (Option.rec .bad (fun s'=>xC .i64 ⟨s1.mem.put st.next (some (.cells s' ty g)),s1.next⟩ 8) (Ar s 0 (ai [98,117,116,116,101,114,121,49]) (0+512*0))) (fun s'=>xC .i64 ⟨s1.mem.put st.next (some (.cells s' ty g)),s1.next⟩ 8) (dQ s 0 (ai [98,117,116,116,101,114,121,49]))
   |_=> .bad):=rfl
  rw[e,g1];have e3:dQ (zr 512) 0 (ai [98,117,116,116,101,114,121,49])=some (bp (zr 512) 0 (ai [98,117,116,116,101,114,121,49])):=by unfold dQ;rw[aAI (by rw[pA];decide)];rfl
  dsimp only;rw[e3];rfl
 have akr:bp (zr 512) 0 (ai [98,117,116,116,101,114,121,49])=ai [98,117,116,116,101,114,121,49]++ai (List.replicate 504 0):=by
  have e:zr 512=ai (List.replicate 8 0)++ai (List.replicate 504 0):=by rw[ng,<-bE,List.replicate_append_replicate]
  rw[e];rfl
 rw[akr]at Xo;have hs8:∀s,bR 512 1 (.ptr st.next 0) (some (.int .i64 8)) (some (.int .i64 16)) s= .ok (.slice st.next 8 8 504 0) s:=fun s=>rfl;simp only[zM,af,Xo,aS,hs8];have k2:Kp [] st (St.set s1 st.next (.cells (ai [98,117,116,116,101,114,121,49]++ai (List.replicate 504 0)) 173 false)):=k1.set _ (.inr (aAE _)) (by omega);have g2:(St.set s1 st.next (.cells (ai [98,117,116,116,101,114,121,49]++ai (List.replicate 504 0)) 173 false)).mem.get st.next=some (.cells (ai [98,117,116,116,101,114,121,49]++ai (List.replicate 504 0)) 173 false):=ao _ _ _;have n2:(St.set s1 st.next (.cells (ai [98,117,116,116,101,114,121,49]++ai (List.replicate 504 0)) 173 false)).next=s1.next:=rfl;generalize St.set s1 st.next (.cells (ai [98,117,116,116,101,114,121,49]++ai (List.replicate 504 0)) 173 false)=s2 at*;refine(G9 (n:=base) (len:=8) (off:=8) (cap:=504) g2 (by omega) (by simp) (by omega) hb).mono ?_;rintro _ s3 ⟨k3,n3,g3⟩
 have qA:bp (ai [98,117,116,116,101,114,121,49]++ai (List.replicate 504 0)) 8 (ai (be 8 base))=ai (dw base):=by
  have e:=oU (ai [98,117,116,116,101,114,121,49]) (ai (List.replicate 504 0)) (ai (be 8 base));have e2:(ai [98,117,116,116,101,114,121,49]).length=8:=rfl
  have e3:(ai (List.replicate 504 0)).drop (ai (be 8 base)).length=ai (List.replicate 496 0):=by
   unfold ai;rw[<-aBZ,aCJ,aBJ,gU]
  rw[e2,e3]at e;rw[e];unfold dw;rw[bE,bE,aBn]
 rw[qA]at g3;have hl:=pY base;have LG:(ai (dw base)).length=512:=by simpa using hl
 have YF:Kp [] st s3:=k2.trans k3 (by simp);have kL:Sl s3 F (.slice st.next 0 512 512 0) 1 (ai (dw base)):= .inr ⟨st.next,0,512,512,0,rfl,by omega,⟨aAE _, .inl rfl⟩, .inr ⟨fun h=>by have:=hd.lt _ h;omega,by omega,_,_,_,g3,by omega,by rw[aBg,aAK (by omega)]⟩⟩;refine(uA (i:=0) (hd.keep YF (by simp)) (YF.fresh hf) (by omega) kL hl).mono ?_;rintro _ s4 ⟨rfl,k4,F',d4,qC⟩;have KG:∀b∈F',b∈F\/st.next<=b:=fun b hb=>(qC b hb).imp id fun h=>by have:=YF.next;omega
 unfold aT.head
 by_cases hz:(D.write 0 (dw base)).1=0
 ·rw[aAI hz];obtain⟨z1,z2,z3⟩:=xN hz;simp only[hz,aw,ff,aBA,aAU,af,ag,aAz,aAO];refine(vn d4 (by rw[z2];simp;omega)).mono ?_;rintro _ s5 ⟨rfl,k5,F2,d5,ze⟩;exact⟨rfl,((YF.mono (fun q hq=>by simp at hq)).trans k4 (fun q hq=> .inl hq)).trans k5 KG,F2,d5,fun b hb=>(ze b hb).elim (KG b) fun h=> .inr (by have:=YF.next;have:=k4.next;omega)⟩
 ·rw[aAH hz];simp only[aw,ff,hz,aCi,aAT,af,ag,aAY];exact⟨trivial,(YF.mono (fun q hq=>by simp at hq)).trans k4 (fun q hq=> .inl hq),F',d4,KG⟩
end
