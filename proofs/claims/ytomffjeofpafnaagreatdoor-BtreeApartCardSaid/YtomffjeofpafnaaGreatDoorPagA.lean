import Derived.Test.YtomffjeofpafnaaGreatDoorRingB
namespace Lim
open Go
noncomputable section
set_option maxRecDepth 100000
section
variable {st st':St}
def mY (l:List UInt8):Nat:=l.foldl (fun a b=>a*256+b.toNat) 0
theorem rW (l:List UInt8)(b:UInt8):mY (l++[b])=mY l*256+b.toNat:=by simp[mY]
def be (k n:Nat):List UInt8:=(le k n).reverse
theorem gV (k n:Nat):(be k n).length=k:=by simp[be,hJ]
theorem yf (k n:Nat):be (k+1) n=UInt8.ofNat (n/256^k%256)::be k n:=by simp[be,le]
theorem Pz (k:Nat):∀n acc:Nat,(be k n).foldl (fun a b=>a*256+b.toNat) acc=acc*256^k+n%256^k:=by
 induction k with
 |zero=>intro n acc;simp[be,le,Nat.mod_one]
 |succ k ih=>
  intro n acc;rw[yf,List.foldl_cons,ih];have h1:(UInt8.ofNat (n/256^k%256)).toNat=n/256^k%256:=by simp
  have h2:n%256^(k+1)=n%256^k+256^k*(n/256^k%256):=by rw[aDy,Nat.mod_mul]
  rw[h1,h2,aDy,aBZ,Nat.mul_assoc,aCT 256 (256^k),aCT (n/256^k%256)];omega
theorem ux (k n:Nat)(h:n<256^k):mY (be k n)=n:=by
 unfold mY;rw[Pz,aDE,aAT,aCN h]
theorem Bn (a m k:Nat)(h:a<2^k)(hs:a+m*2^k<9223372036854775808)(d:Option jL)(c:Bool)(st:St):aj .or d c (I ((m*2^k:Nat):Int)) (I a) st= .ok (I ((m*2^k+a:Nat):Int)) st:=by
 have e:aj .or d c (I ((m*2^k:Nat):Int)) (I a) st=(match jz .or .i64 ((m*2^k:Nat):Int) (a:Int)with|some r=> .ok (.int .i64 r) st|none=> .bad):=rfl
 have e2:jz .or .i64 ((m*2^k:Nat):Int) (a:Int)=jz .or .i64 (a:Int) ((m*2^k:Nat):Int):=by
  show some (IntKind.i64.wrap ((BitVec.ofInt 64 _|||BitVec.ofInt 64 _).toNat:Int))=some (IntKind.i64.wrap ((BitVec.ofInt 64 _|||BitVec.ofInt 64 _).toNat:Int));rw[BitVec.or_comm]
 rw[e,e2,Ua a m k h hs,aDF]
theorem sD {X:List Nat}{v:CV}{l:List UInt8}(h:Sl st X v 1 (ai l))(hl:l.length<=1000)(hb:∀i,mY (l.take i)<=4611686018427387904):R 71 [v] st fun x st'=>x=I (mY l)/\st'=st:=by
 refine bO ?_;rw[w71];have hlen:=h.len l.length (by simp) (by omega) st;show us _ _;rw[hlen,af];show dn _ _ _;simp only[aK,aL];refine bM (fun fu vs s=>∃i,fu+i=l.length/\vs=[I (mY (l.take i)),v,I l.length,I i]/\s=st) ?_ (n:=l.length) ⟨0,rfl,rfl,rfl⟩;rintro fu vs s k ⟨i,hi,rfl,rfl⟩ next;simp only[aK,aL]
 by_cases hc:i<l.length
 ·have a1:aj .lss none false (I i) (I l.length) s= .ok (.bool true) s:=by rw[av,de,aBc (by omega)]
  have JH:=hb i;have GS:=hb (i+1);have AK:l.take (i+1)=l.take i++[l[i]]:=by rw[aBl hc]
  rw[AK,rW]at GS;have hlt:(l[i]).toNat<256:=(l[i]).toNat_lt
  have a2:aj .shl none true (I (mY (l.take i))) (.int .u64 8) s= .ok (I ((mY (l.take i)*2^8:Nat):Int)) s:=by
   have e:aj .shl none true (I (mY (l.take i))) (.int .u64 8) s= .ok (I (IntKind.i64.wrap ((mY (l.take i):Int)*2^8))) s:=rfl;rw[e,bD (by omega)];simp
  have a3:dB (.toInt .i64) (bN l[i]) s= .ok (I (l[i]).toNat) s:=D9 _ (by omega) _ _;have a4:aj .or none false (I ((mY (l.take i)*2^8:Nat):Int)) (I (l[i]).toNat) s= .ok (I ((mY (l.take i)*2^8+(l[i]).toNat:Nat):Int)) s:=Bn _ _ _ (by omega) (by omega) _ _ _;have a5:aj .add none true (I i) (.int .i64 1) s= .ok (I ((i+1:Nat):Int)) s:=by rw[av,cN,bD (by omega)];rfl
  simp only[a1,af,ag,aBr,a2];refine h.idx (by simpa using hc) _ ?_;have hg:(ai l)[i]'(by simpa using hc)=bN l[i]:=by simp[ai]
  rw[hg,a3,af,a4,af,a5,af];exact next (fu-1) _ _ (by omega) ⟨i+1,by omega,by rw[AK,rW],rfl⟩
 ·have a1:aj .lss none false (I i) (I l.length) s= .ok (.bool false) s:=by rw[av,de,aAW (by omega)]
  simp only[a1,af,ag,aAR,aBf];rw[aBa (by omega)];exact⟨rfl,trivial⟩
theorem Bo (L T:List CV)(p:Nat)(x:CV)(h:p+1+T.length<=L.length):bt (bt L (p+1) T) p [x]=bt L p (x::T):=by
 unfold bt
 have e1:(L.take (p+1)++(T++L.drop (p+1+T.length))).take p=L.take p:=by
  rw[List.take_append_of_le_length (by rw[aBh];omega),aCh,aBH (by omega)]
 have e2:(L.take (p+1)++(T++L.drop (p+1+T.length))).drop (p+1)=T++L.drop (p+1+T.length):=by
  rw[List.drop_append,aBC (by rw[aBh];omega),aBh,aBH (by omega),Nat.sub_self,aBx,aBw]
 simp only[aBt,aCu,aAT];rw[e1,e2];have e3:p+(T.length+1)=p+1+T.length:=by omega
 rw[e3];rfl
theorem yS (L:List CV)(p:Nat):bt L p []=L:=by unfold bt;simp
theorem Ht {b off len cap n:Nat}{L:List CV}{t:TypeId}{g:Bool}(hb:st.mem.get b=some (.cells L t g))(FH:b<st.next)(hL:off+len<=L.length)(hlen:len<=8)(hn:n<9223372036854775808):
 R 135 [.slice b off len cap 0,I n] st fun x st'=>Kp [b] st st'/\st'.next=st.next/\st'.mem.get b=some (.cells (bt L off (ai (be len n))) t g):=by
 refine bO ?_;rw[ahJ];simp only[db,ns,af,aK,aL]
 refine bM (fun fu vs s=>∃i,fu+i=len/\vs=[.slice b off len cap 0,I n,I len,I i]/\Kp [b] st s/\s.next=st.next/\s.mem.get b=some (.cells (bt L (off+len-i) (ai (be i n))) t g)) ?_ (n:=len) ⟨0,rfl,rfl,Kp.refl _ _,rfl,by
  have:ai (be 0 n)=[]:=rfl;rw[this,yS];exact hb⟩
 rintro fu vs s k ⟨i,hi,rfl,hk,HT,hg⟩ next;simp only[aK,aL]
 by_cases hc:i<len
 ·have a1:aj .lss none false (I i) (I len) s= .ok (.bool true) s:=by rw[av,de,aBc (by omega)]
  have a2:aj .sub none true (I len) (.int .i64 1) s= .ok (I ((len-1:Nat):Int)) s:=by rw[av,dJ,bD (by omega)];congr 2;omega
  have a3:aj .sub none false (I ((len-1:Nat):Int)) (I i) s= .ok (I ((len-1-i:Nat):Int)) s:=by rw[av,dJ,bD (by omega)];congr 2;omega
  have a4:aj .mul none true (.int .i64 8) (I i) s= .ok (I ((8*i:Nat):Int)) s:=by rw[av,jQ,bD (by omega)];rfl
  have a5:cU 1 (.slice b off len cap 0) (I ((len-1-i:Nat):Int)) s= .ok (.ptr b (off+(len-1-i)*1)) s:=gu (by omega) (.inl rfl) s;have a6:∀s,aj .add none true (I i) (.int .i64 1) s= .ok (I ((i+1:Nat):Int)) s:=fun s=>by rw[av,cN,bD (by omega)];rfl
  simp only[a1,af,ag,aBr,ns,a2,a3,a4,Cq _ _ (show i<8 by omega),M6,Db,a5,aH,hg,aS,a6];have e1:off+(len-1-i)*1=off+len-(i+1):=by omega
  have e2:off+len-i=off+len-(i+1)+1:=by omega
  have tk:(be i n).length=i:=gV i n
  have e3:bt (bt L (off+len-i) (ai (be i n))) (off+len-(i+1)) [bN (UInt8.ofNat (n/256^i%256))]=bt L (off+len-(i+1)) (ai (be (i+1) n)):=by
   rw[e2,Bo _ _ _ _ (by simp[tk];omega),yf];rfl
  have Sr:(bN (UInt8.ofNat (n/256^i%256))).cK=[bN (UInt8.ofNat (n/256^i%256))]:=rfl;rw[e1,Sr,e3];refine⟨⟨rfl,rfl,by rw[lX _ _ _ (by simp[tk];omega)];omega⟩,next (fu-1) _ _ (by omega) ⟨i+1,by omega,rfl,hk.set _ (.inl (by simp)) (by omega),HT,ao _ _ _⟩⟩
 ·have a1:aj .lss none false (I i) (I len) s= .ok (.bool false) s:=by rw[av,de,aAW (by omega)]
  simp only[a1,af,ag,aAR,aBf];have DQ:i=len:=by omega
  subst DQ;rw[aCc]at hg;exact⟨hk,HT,hg⟩
end
structure jA where
 root:Nat
 used:Nat
 head:Nat
 free:Nat
structure bR where
 first:Nat
 aE:Nat
 dirty:List (Nat×jk)
 now:List (Nat×jk)
 kept:jA
 m:jA
 idle:List Nat
 count:List Nat
def gp (l:List (Nat×jk)):MZ:=l.map fun p:Nat×jk=>(Int.ofNat p.1,CV.agg (ai p.2))
def sZ (l:List Nat):MZ:=l.map fun n:Nat=>(Int.ofNat n,CV.bool true)
def dh (l:List (Nat×jk))(n:Nat):Option jk:=match l with|[]=>none|p::r=>if n=p.1 then some p.2 else dh r n
def gH (l:List (Nat×jk))(n:Nat)(s:jk):List (Nat×jk):=match l with|[]=>[(n,s)]|p::r=>if n=p.1 then (n,s)::r else p::gH r n s
def mI (l:List Nat)(n:Nat):List Nat:=match l with|[]=>[n]|p::r=>if n=p then p::r else p::mI r n
def yx (l:List Nat)(n:Nat):List Nat:=match l with|[]=>[]|p::r=>if n=p then r else p::yx r n
theorem uO (l:List (Nat×jk))(n:Nat):iS (gp l) n=(dh l n).map fun s=> .agg (ai s):=by
 induction l with
 |nil=>rfl
 |cons p r ih=>
  show(if (n:Int)=(p.1:Int)then some (CV.agg (ai p.2))else iS (gp r) n)=_;simp only[dh]
  by_cases h:n=p.1
  ·rw[aBb h,aBb (by omega)];rfl
  ·rw[aAZ h,aAZ (by omega)];exact ih
theorem uN (l:List (Nat×jk))(n:Nat)(s:jk):mq (gp l) n (.agg (ai s))=gp (gH l n s):=by
 induction l with
 |nil=>rfl
 |cons p r ih=>
  show(if (n:Int)=(p.1:Int)then ((n:Int),CV.agg (ai s))::gp r else ((p.1:Int),CV.agg (ai p.2))::mq (gp r) n (.agg (ai s)))=_;simp only[gH]
  by_cases h:n=p.1
  ·rw[aBb h,aBb (by omega)];rfl
  ·rw[aAZ h,aAZ (by omega),ih];rfl
theorem Ej (l:List Nat)(n:Nat):iS (sZ l) n=if n∈l then some (.bool true)else none:=by
 induction l with
 |nil=>rfl
 |cons p r ih=>
  show(if (n:Int)=(p:Int)then some (CV.bool true)else iS (sZ r) n)=_
  by_cases h:n=p
  ·rw[aBb (by omega),aBb (by simp[h])]
  ·rw[aAZ (by omega),ih];simp[h]
theorem yw (l:List Nat)(n:Nat):mq (sZ l) n (.bool true)=sZ (mI l n):=by
 induction l with
 |nil=>rfl
 |cons p r ih=>
  show(if (n:Int)=(p:Int)then ((n:Int),CV.bool true)::sZ r else ((p:Int),CV.bool true)::mq (sZ r) n (.bool true))=_;simp only[mI]
  by_cases h:n=p
  ·rw[aBb h,aBb (by omega),h];rfl
  ·rw[aAZ h,aAZ (by omega),ih];rfl
theorem Nn (l:List Nat)(n:Nat):qd (sZ l) n=sZ (yx l n):=by
 induction l with
 |nil=>rfl
 |cons p r ih=>
  show(if (n:Int)=(p:Int)then sZ r else ((p:Int),CV.bool true)::qd (sZ r) n)=_;simp only[yx]
  by_cases h:n=p
  ·rw[aBb h,aBb (by omega)]
  ·rw[aAZ h,aAZ (by omega),ih];rfl
structure cG (st:St)(p a:Nat)(lg:CV)(M:bR)(bd bn bi bc:Nat):Prop where
 main:st.mem.get p=some (.cells [.ptr a 0,lg,I M.first,I M.aE, .map bd, .map bn,I M.kept.root,I M.kept.used,I M.kept.head,I M.kept.free,I M.m.root,I M.m.used,I M.m.head,I M.m.free, .map bi, .map bc] 158 false)
 dirty:IsMap st bd (gp M.dirty)
 now:c8 st bn (gp M.now)
 idle:c8 st bi (sZ M.idle)
 count:c8 st bc (sZ M.count)
 nd:[p,bd,bn,bi,bc].Nodup
 lt:∀b∈[p,bd,bn,bi,bc],b<st.next
 lgs:lg.cK=[lg]/\cq lg=true/\lg.isAny=false
section
variable {st st':St} {p a:Nat} {lg:CV} {M:bR} {bd bn bi bc:Nat}
theorem cG.keep {X:List Nat}(h:cG st p a lg M bd bn bi bc)(hk:Kp X st st')(hx:∀b∈[p,bd,bn,bi,bc],b∉X):cG st' p a lg M bd bn bi bc:=by
 have k:∀b∈[p,bd,bn,bi,bc],st'.mem.get b=st.mem.get b:=fun b hb=>hk.keep b (h.lt b hb) (hx b hb);exact⟨(k p (by simp)).trans h.main,h.dirty.mono (k bd (by simp)),h.now.mono (k bn (by simp)),h.idle.mono (k bi (by simp)),h.count.mono (k bc (by simp)),h.nd,fun b hb=>aBs (h.lt b hb) hk.next,h.lgs⟩
def bR.ck (M:bR):Int:=(M.aE:Int)-M.m.used+M.m.free
def bR.bL (M:bR)(n:Nat):Prop:=0<n/\n<M.m.used/\n∉M.idle
instance (M:bR) (n:Nat):Decidable (M.bL n):=by unfold bR.bL;infer_instance
theorem yL (h:cG st p a lg M bd bn bi bc)(h1:M.aE<=1000000)(h2:M.m.used<=1000000)(h3:M.m.free<=1000000):R 62 [.ptr p 0] st fun v st'=>v=I M.ck/\st'=st:=by
 refine bO ?_;rw[w62];have e1:IntKind.i64.wrap ((M.aE:Int)-M.m.used)=(M.aE:Int)-M.m.used:=bD (by omega);have e2:IntKind.i64.wrap ((M.aE:Int)-M.m.used+M.m.free)=M.ck:=bD (by omega);simp[h.main,e1,e2]
theorem RH (h:cG st p a lg M bd bn bi bc):R 54 [.ptr p 0] st fun v st'=>v=I M.m.root/\st'=st:=by
 refine bO ?_;rw[w54];simp[rJ,h.main]
theorem uG (h:cG st p a lg M bd bn bi bc)(n:Nat):R 101 [.ptr p 0,I n] st fun v st'=>v= .bool (decide (M.bL n))/\st'=st:=by
 refine bO ?_;rw[aij];have zp:=IsMap.lookup (.inl h.idle) (.bool false) false n st rfl;rw[aAZ (by decide),Ej]at zp;unfold bR.bL
 by_cases h1:0<n
 ·by_cases h2:n<M.m.used
  ·by_cases h3:n∈M.idle
   ·rw[aBb h3]at zp;simp[h1,h2,h3,iU,ki,h.main,zp]
   ·rw[aAZ h3]at zp;simp[h1,h2,h3,iU,ki,h.main,zp]
  ·simp[h1,h2,iU,ki,h.main]
 ·have:n=0:=by omega
  subst this;simp[iU,ki,h.main]
theorem Hf (h:cG st p a lg M bd bn bi bc)(n:Nat)(hn:n=0\/M.bL n):R 49 [.ptr p 0,I n] st fun v st'=>v=I 0/\Kp [p] st st'/\st'.next=st.next/\cG st' p a lg {M with m:={M.m with root:=n}} bd bn bi bc:=by
 refine bO ?_;rw[w49];have nd:=h.nd;simp only[aBi,aAX,aBF,aCA,aCr]at nd
 have fin:Ar 1 10 0 (.ptr p 0) (I n) st fun s2=>(I 0=I 0/\Kp [p] st s2/\s2.next=st.next/\cG s2 p a lg {M with m:={M.m with root:=n}} bd bn bi bc):=by
  have kg:∀r,bt [CV.ptr a 0,lg,I M.first,I M.aE, .map bd, .map bn,I M.kept.root,I M.kept.used,I M.kept.head,I M.kept.free,I r,I M.m.used,I M.m.head,I M.m.free, .map bi, .map bc] 10 [I n]=[CV.ptr a 0,lg,I M.first,I M.aE, .map bd, .map bn,I M.kept.root,I M.kept.used,I M.kept.head,I M.kept.free,I n,I M.m.used,I M.m.head,I M.m.free, .map bi, .map bc]:=fun _=>rfl;simp only[Ar,bA,ah,af,aH,h.main,aS,iF,aAT,aBJ,kg];have hlt:=h.lt p (by simp);have hk:Kp [p] st (St.set st p (.cells [CV.ptr a 0,lg,I M.first,I M.aE, .map bd, .map bn,I M.kept.root,I M.kept.used,I M.kept.head,I M.kept.free,I n,I M.m.used,I M.m.head,I M.m.free, .map bi, .map bc] 158 false)):=(Kp.refl _ st).set _ (.inl (by simp)) hlt;refine⟨⟨rfl,rfl,by simp⟩,trivial,hk,rfl,ao _ _ _,h.dirty.mono (ak _ _ _ _ (aBU nd.1.1)),h.now.mono (ak _ _ _ _ (aBU nd.1.2.1)),h.idle.mono (ak _ _ _ _ (aBU nd.1.2.2.1)),h.count.mono (ak _ _ _ _ (aBU nd.1.2.2.2)),h.nd,h.lt,h.lgs⟩
 by_cases h0:n=0
 ·subst h0;simp
  simpa using fin
 ·have hu:=hn.resolve_left h0;have e0:¬(n:Int)=0:=by omega
  simp[h0];refine(uG h n).same ?_;simp[hu]
  simpa using fin
end
section
variable {st st':St} {p a:Nat} {lg:CV} {M:bR} {bd bn bi bc:Nat} {F:List Nat} {D:aV}
def bR.get (M:bR)(D:aV)(n:Nat):jk:=match dh M.now n with|some s=>s|none=>match dh M.dirty n with|some s=>s|none=>D.cur (M.first+n)
theorem I8 (s:jk)(h:s.length=512):bt (zr 512) 0 (ai s)=ai s:=dV _ _ (by rw[bF,h];exact List.length_replicate.symm)
theorem pL:(zr 512).length=512:=aBz
theorem Mk:aX (zr 512)=true:=by rw[nb];exact bE _
theorem kR {s:St}{T:List CV}{K:CV->St->Prop}(hl:T.length=512)(ho:aX T=true)(hK:K (.ptr s.next 0) (St.set (St.new s (.cells (zr 512) 173 false)) s.next (.cells T 173 false))):
 upon (dD 173 (zr 512) s) fun x s2=>upon (aR 512 x (.agg T) s2) fun _ s3=>K x s3:=by
 rw[cM,aT,aH,aq];have:bt (zr 512) 0 T=T:=dV _ _ (by rw[hl];exact pL.symm);rw[aS,aU,this];exact⟨⟨hl,ho,by rw[pL];exact aAU _⟩,hK⟩
theorem Kp.page {X:List Nat}{s s2:St}(h:Kp X s s2)(T:List CV):Kp X s (St.set (St.new s2 (.cells (zr 512) 173 false)) s2.next (.cells T 173 false)):=(h.new _).set _ (.inr h.next) (by simp)
theorem xW (h:cG st p a lg M bd bn bi bc)(hd:dt st a F D)(tf:D.dead=false){n:Nat}(hn:M.first+n<D.ay.length)(hs:(M.get D n).length=512):
 R 123 [.ptr p 0,I n] st fun v st'=>v= .tuple [.agg (ai (M.get D n)),I 0]/\Kp [] st st':=by
 refine bO ?_;rw[ahQ];have hsz:=(show D.ay.length<=65536 from by obtain⟨_,_,_,_,_,_,_,h⟩:=hd;exact h.size);have k1:Kp [] st (St.new st (.cells (zr 512) 173 false)):=(Kp.refl [] st).new _;have g1:(St.new st (.cells (zr 512) 173 false)).mem.get st.next=some (.cells (zr 512) 173 false):=aq _ _;have n1:(St.new st (.cells (zr 512) 173 false)).next=st.next+1:=rfl;rw[cM,aT];generalize St.new st (.cells (zr 512) 173 false)=s1 at*;have h1:=h.keep k1 (by simp);have tH:=IsMap.lookup (.inl h1.now) (.agg (zr 512)) true n s1 rfl;rw[aBb rfl,uO]at tH;simp only[fH,bA,ah,af,az,h1.main,ar,aAT,aAS,aAQ,au,tH,aD,aJ]
 have fin:∀(s:St) (T:jk),T.length=512->T=M.get D n->Kp [] st s->s.mem.get st.next=some (.cells (zr 512) 173 false)->st.next<s.next->
  upon (aR 512 (.ptr st.next 0) (.agg (ai T)) s) fun _ s4=>us (aI 512 (.ptr st.next 0) s4) fun x8=>(CV.tuple [x8,I 0]= .tuple [.agg (ai (M.get D n)),I 0]/\Kp [] st s4):=by
  intro s T hT he hk hg hlt;rw[aH,hg,aS,aU,I8 T hT];have Am:(ai T).length=512:=by simpa using hT
  refine⟨⟨Am,bE _,by rw[pL];exact aAU _⟩, ?_⟩;rw[aO (n:=512) (ao s st.next (.cells (ai T) 173 false)) Am,af];exact⟨by rw[he],hk.set _ (.inr (aAU _)) hlt⟩
 cases hp:dh M.now n with
 |some T=>
  have he:T=M.get D n:=by unfold bR.get;rw[hp]
  have hT:T.length=512:=by rw[he];exact hs
  have Am:(ai T).length=512:=by simpa using hT
  simp only[aCf,aCl,aDu];refine kR Am (bE _) ?_;rw[ag,aBb rfl,aO (n:=512) (ao (St.new s1 (.cells (zr 512) 173 false)) s1.next (.cells (ai T) 173 false)) Am,af];exact fin _ T hT he (k1.page _) (by rw[ak _ _ _ _ (by omega),aW _ _ _ (by omega)];exact g1) (by simp;omega)
 |none=>
  simp only[Option.map_none,Option.getD_none,Option.isSome_none];refine kR pL Mk ?_;have k3:=k1.page (zr 512);have g3:(St.set (St.new s1 (.cells (zr 512) 173 false)) s1.next (.cells (zr 512) 173 false)).mem.get st.next=some (.cells (zr 512) 173 false):=by rw[ak _ _ _ _ (by omega),aW _ _ _ (by omega)];exact g1
  have n3:(St.set (St.new s1 (.cells (zr 512) 173 false)) s1.next (.cells (zr 512) 173 false)).next=s1.next+1:=rfl;generalize St.set (St.new s1 (.cells (zr 512) 173 false)) s1.next (.cells (zr 512) 173 false)=s3 at*;have h3:=h.keep k3 (by simp);have K1:=IsMap.lookup h3.dirty (.agg (zr 512)) true n s3 rfl;rw[aBb rfl,uO]at K1;simp only[ag,aAR,aBf,fH,bA,ah,af,az,h3.main,ar,aAT,aAS,aAQ,au,K1,aD,aJ];cases hq:dh M.dirty n with
  |some T=>
   have he:T=M.get D n:=by unfold bR.get;rw[hp,hq]
   have hT:T.length=512:=by rw[he];exact hs
   have Am:(ai T).length=512:=by simpa using hT
   simp only[aCf,aCl,aDu];refine kR Am (bE _) ?_;rw[aBb trivial,aO (n:=512) (ao (St.new s3 (.cells (zr 512) 173 false)) s3.next (.cells (ai T) 173 false)) Am,af];exact fin _ T hT he (k3.page _) (by rw[ak _ _ _ _ (by omega),aW _ _ _ (by omega)];exact g3) (by simp;omega)
  |none=>
   have he:D.cur (M.first+n)=M.get D n:=by unfold bR.get;rw[hp,hq]
   simp only[Option.map_none,Option.getD_none,Option.isSome_none];refine kR pL Mk ?_;have k5:=k3.page (zr 512);have g5:(St.set (St.new s3 (.cells (zr 512) 173 false)) s3.next (.cells (zr 512) 173 false)).mem.get st.next=some (.cells (zr 512) 173 false):=by rw[ak _ _ _ _ (by omega),aW _ _ _ (by omega)];exact g3
   have n5:(St.set (St.new s3 (.cells (zr 512) 173 false)) s3.next (.cells (zr 512) 173 false)).next=s3.next+1:=rfl;generalize St.set (St.new s3 (.cells (zr 512) 173 false)) s3.next (.cells (zr 512) 173 false)=s5 at*;have h5:=h.keep k5 (by simp);have d5:=hd.keep k5 (by simp);have a1:aj .add none false (I M.first) (I n) s5= .ok (I ((M.first+n:Nat):Int)) s5:=by rw[av,cN,bD (by omega)];rfl
   simp only[ag,aAR,aBf,bG,bA,ah,af,az,h5.main,ar,aAT,aAS,aAQ,au,a1];refine(xU d5 ((M.first+n:Nat):Int)).mono ?_;intro x s8 hx
   have er:D.read ((M.first+n:Nat):Int)=(0,D.cur (M.first+n)):=by
    unfold aV.read;rw[aAZ (by simp[tf]),aAZ (by omega),aDz]
   rw[er,aBb rfl]at hx;obtain⟨k8,hl,b,rfl,g8,b1,b2⟩:=hx;have n8:=k8.next;have GH:ow 512 (.slice b 0 512 512 1) s8= .ok (.ptr b 0) s8:=rfl;have Mc:(ai (D.cur (M.first+n))).length=512:=by simpa using hl
   simp only[aD,aJ,af,av,fj,aBV,aBm,ag,aAR,aBf,GH,aO g8 Mc];refine⟨⟨trivial,trivial,trivial⟩,trivial, ?_⟩;exact fin s8 _ hl he (k5.trans k8 (by simp)) ((k8.keep _ (by omega) (by simp)).trans g5) (by omega)
end
section
variable {st st':St} {p a:Nat} {lg:CV} {M:bR} {bd bn bi bc:Nat} {F:List Nat} {D:aV}
theorem NH (h:cG st p a lg M bd bn bi bc)(hd:dt st a F D)(tf:D.dead=false){n:Nat}(hu:M.bL n)(hn:M.first+n<D.ay.length)(hs:(M.get D n).length=512):
 R 137 [.ptr p 0,I n] st fun v st'=>Got (M.get D n) st v st':=by
 refine bO ?_;rw[ahH];simp only[cX,af,ag,aAR,aBf];refine(uG h n).same ?_;simp only[hu,aBV,du,af,aBm,ag,aAR,aBf];refine(xW h hd tf hn hs).mono ?_;rintro _ s2 ⟨rfl,k2⟩;have Am:(ai (M.get D n)).length=512:=by simpa using hs
 simp only[aD,aJ,af];refine kR Am (bE _) ?_;have k4:=k2.page (ai (M.get D n));have g4:(St.set (St.new s2 (.cells (zr 512) 173 false)) s2.next (.cells (ai (M.get D n)) 173 false)).mem.get s2.next=some (.cells (ai (M.get D n)) 173 false):=ao _ _ _;have n4:(St.set (St.new s2 (.cells (zr 512) 173 false)) s2.next (.cells (ai (M.get D n)) 173 false)).next=s2.next+1:=rfl;generalize St.set (St.new s2 (.cells (zr 512) 173 false)) s2.next (.cells (ai (M.get D n)) 173 false)=s4 at*;have Ai:bP 512 1 (.ptr s2.next 0) none none s4= .ok (.slice s2.next 0 512 512 0) s4:=rfl;simp only[av,fj,aBV,aBm,af,ag,aAR,aBf,Ai];have kN:Sl s4 [] (.slice s2.next 0 512 512 0) 1 (ai (M.get D n)):= .inr ⟨s2.next,0,512,512,0,rfl,by omega,⟨aAU _, .inl rfl⟩, .inr ⟨by simp,by omega,_,_,_,g4,by omega,by rw[aBx,aBa (by omega)]⟩⟩;refine(vL kN (by omega)).mono ?_;rintro x s5 ⟨F',q1,q2,q3,q4⟩;obtain⟨b,n',r1,r2,r3,r4,r5⟩:=q2.row (by omega);have:n'=512:=by omega
 subst this;have hb:=q3 b (by simp[r1]);exact⟨k4.trans q1 (by simp),hs,b,by rw[r3],r5,by have:=k4.next;omega,hb.2⟩
theorem yb {s:St}{T:jk}{n:Nat}(h:cG s p a lg M bd bn bi bc):
 ∃v1 e1 mw v2 e2 lJ s5,fC .int (.agg (zr 512)) (.map bn) (I n) s= .ok (.tuple [v1,I e1]) (St.set s bn mw)/\
  (∃pG,dP (.map bn) (I e1) (.agg (ai T)) (St.set s bn mw)= .ok .undef (St.set s bn pG)/\
  fC .int (.bool false) (.map bc) (I n) (St.set s bn pG)= .ok (.tuple [v2,I e2]) (St.set (St.set s bn pG) bc lJ)/\
  dP (.map bc) (I e2) (.bool true) (St.set (St.set s bn pG) bc lJ)= .ok .undef s5)/\Kp [bn,bc] s s5/\s5.next=s.next/\cG s5 p a lg {M with now:=gH M.now n T,count:=mI M.count n} bd bn bi bc:=by
 have nd:=h.nd;simp only[aBi,aAX,aBF,aCA,aCr]at nd;obtain⟨⟨n1,n2,n3,n4⟩,⟨n5,n6,n7⟩,⟨n8,n9⟩,QC,_⟩:=nd;obtain⟨v1,e1,mw,a1,a2⟩:=h.now.entry (.agg (zr 512)) n;obtain⟨pG,a3,a4⟩:=a2 (.agg (ai T)) _ (ao s bn mw);rw[set_set]at a3 a4;have hc:c8 (St.set s bn pG) bc (sZ M.count):=h.count.mono (ak _ _ _ _ (aBU n9));obtain⟨v2,e2,lJ,b1,b2⟩:=hc.entry (.bool false) n;obtain⟨aeK,b3,b4⟩:=b2 (.bool true) _ (ao (St.set s bn pG) bc lJ);rw[set_set]at b3 b4;rw[uN]at a4;rw[yw]at b4;have l1:=h.lt bn (by simp);have l2:=h.lt bc (by simp);have kk:∀q,q≠bn->q≠bc->(St.set (St.set s bn pG) bc aeK).mem.get q=s.mem.get q:=fun q h1 h2=>(ak _ _ _ _ h2).trans (ak _ _ _ _ h1);refine⟨v1,e1,mw,v2,e2,lJ,_,a1,⟨pG,a3,b1,b3⟩,((Kp.refl _ s).set _ (.inl (by simp)) l1).set _ (.inl (by simp)) l2,rfl, ?_,h.dirty.mono (kk bd n5 n7),a4.mono (ak _ _ _ _ n9),h.idle.mono (kk bi (aBU n8) QC),b4,h.nd,h.lt,h.lgs⟩;exact(kk p n2 n4).trans h.main
theorem Kz (h:cG st p a lg M bd bn bi bc){n:Nat}(hu:M.bL n){v:CV}{T:jk}(hv:Sl st [bn,bc] v 1 (ai T))(hT:T.length=512):
 R 99 [.ptr p 0,I n,v] st fun x st'=>x=I 0/\Kp [bn,bc] st st'/\st'.next=st.next/\cG st' p a lg {M with now:=gH M.now n T,count:=mI M.count n} bd bn bi bc:=by
 refine bO ?_;rw[w99];simp only[cX,af,ag,aAR,aBf];refine(uG h n).same ?_;have hlen:=hv.len 512 (by simp[hT]) (by omega) st;simp only[hu,aBV,du,af,aBm,aG,aAR,aBf,aBk,bh,hlen];have e1:aj .neq (some .int) true (I ((512:Nat):Int)) (.int .i64 512) st= .ok (.bool false) st:=rfl;obtain⟨v1,i1,mw,v2,i2,lJ,s5,a1,⟨pG,a2,a3,a4⟩,a5,a6,a7⟩:=yb (T:=T) (n:=n) h
 have L9:∃bv off,ow 512 v st= .ok (.ptr bv off) st/\bv≠bn/\∃l t g,st.mem.get bv=some (.cells l t g)/\off+512<=l.length/\(l.drop off).take 512=ai T:=by
  rcases hv with⟨_,h⟩|⟨b,off,len,cap,grow,rfl,h2,h3,h4⟩
  ·have:=congrArg List.length h;simp[hT]at this
  ·have:len=512:=by simp[hT]at h2;omega
   subst this;rcases h4 with h4|⟨h5,h6,l,t,g,h7,h8,h9⟩
   ·cases h4
   ·refine⟨b,off, ?_,fun e=>h5 (by simp[e]),l,t,g,h7,by omega,by simpa using h9⟩;have e:ow 512 (.slice b off 512 cap grow) st=bC (Bool.and (Nat.ble 512 512) (Bool.or (Nat.beq grow 0) (Bool.and (Nat.ble 1 cap) (Nat.ble 512 cap)))) (.ok (.ptr b off) st) .bad:=rfl;rw[e,aM,aBb (by simp only[aBp,aBS,aBy,aBB];omega)]
 obtain⟨bv,off,b1,b2,l,t,g,b3,b4,b5⟩:=L9;have b6:aI 512 (.ptr bv off) st= .ok (.agg (ai T)) st:=by rw[gq b3 b4,b5]
 have b7:aI 512 (.ptr bv off) (St.set st bn mw)= .ok (.agg (ai T)) (St.set st bn mw):=by rw[gq ((ak _ _ _ _ b2).trans b3) b4,b5]
 simp only[e1,af,aF,aAR,aBf,ag,bG,bA,ah,az,h.main,ar,aAT,aAS,aAQ,au,b1,b6,a1,aT,aD,aJ,a2,a3,a4,b7];exact⟨⟨trivial,trivial,⟨trivial,trivial⟩,trivial⟩,trivial,trivial,a5,a6,a7⟩
end
section
variable {st st':St} {p a:Nat} {lg:CV} {M:bR} {bd bn bi bc:Nat} {F:List Nat} {D:aV}
theorem YD (l:List UInt8):mY l<256^l.length:=by
 have key:∀k (l:List UInt8),l.length=k->mY l<256^k:=by
  intro k
  induction k with
  |zero=>intro l h;have:l=[]:=aBn.1 h;subst this;simp[mY]
  |succ k ih=>
   intro l h;have gT:l≠[]:=fun e=>by subst e;simp at h
   have e:=List.dropLast_concat_getLast gT;have h1:=ih l.dropLast (by simp[h]);have h2:=(l.getLast gT).toNat_lt;rw[<-e,rW,aDy];omega
 exact key _ l rfl
theorem sU (l:List UInt8)(h:l.length<=4)(i:Nat):mY (l.take i)<=4611686018427387904:=by
 have h1:=YD (l.take i);have h2:(l.take i).length<=4:=by rw[aBh];omega
 have h3:256^(l.take i).length<=256^4:=Nat.pow_le_pow_right (by omega) h2;omega
theorem cG.CS (h:cG st p a lg M bd bn bi bc)(m':jA):Kp [p] st (St.set st p (.cells [.ptr a 0,lg,I M.first,I M.aE, .map bd, .map bn,I M.kept.root,I M.kept.used,I M.kept.head,I M.kept.free,I m'.root,I m'.used,I m'.head,I m'.free, .map bi, .map bc] 158 false))/\
 cG (St.set st p (.cells [.ptr a 0,lg,I M.first,I M.aE, .map bd, .map bn,I M.kept.root,I M.kept.used,I M.kept.head,I M.kept.free,I m'.root,I m'.used,I m'.head,I m'.free, .map bi, .map bc] 158 false)) p a lg {M with m:=m'} bd bn bi bc:=by
 have nd:=h.nd;simp only[aBi,aAX,aBF,aCA,aCr]at nd;exact⟨(Kp.refl _ st).set _ (.inl (by simp)) (h.lt p (by simp)),ao _ _ _,h.dirty.mono (ak _ _ _ _ (aBU nd.1.1)),h.now.mono (ak _ _ _ _ (aBU nd.1.2.1)),h.idle.mono (ak _ _ _ _ (aBU nd.1.2.2.1)),h.count.mono (ak _ _ _ _ (aBU nd.1.2.2.2)),h.nd,h.lt,h.lgs⟩
def bR.zS (M:bR):bR:={M with m:={M.m with used:=M.m.used+1},now:=gH M.now M.m.used iN,count:=mI M.count M.m.used}
def bR.wG (M:bR)(D:aV):bR:={M with m:={M.m with head:=mY ((M.get D M.m.head).take 4),free:=M.m.free-1},idle:=yx M.idle M.m.head,now:=gH M.now M.m.head iN,count:=mI M.count M.m.head}
theorem IE:zr 512=ai iN:=nb 512
theorem I7 (s:St):bJ (zr 512) [] s= .ok (.agg (zr 512)) s:=by rw[dO,kJ]
theorem LQ (h:cG st p a lg M bd bn bi bc)(h1:M.aE<=1000000)(h2:M.m.used<=1000000)(h3:M.m.free<=1000000)(hf:M.ck≠0)(h0:M.m.head=0):
 R 97 [.ptr p 0] st fun v st'=>v= .tuple [I M.m.used,I 0]/\Kp [p,bn,bc] st st'/\st'.next=st.next/\cG st' p a lg M.zS bd bn bi bc:=by
 refine bO ?_;rw[w97];simp only[cX,af,ag,aAR,aBf];refine(yL h h1 h2 h3).same ?_;have e1:aj .eql (some .int) true (I M.ck) (.int .i64 0) st= .ok (.bool false) st:=by rw[av,cB,aAW hf]
 have e2:aj .eql (some .int) true (I M.m.head) (.int .i64 0) st= .ok (.bool true) st:=by rw[h0];rfl
 have e3:aj .add none true (I M.m.used) (.int .i64 1) st= .ok (I ((M.m.used+1:Nat):Int)) st:=by rw[av,cN,bD (by omega)];rfl
 have kg:bt [.ptr a 0,lg,I M.first,I M.aE, .map bd, .map bn,I M.kept.root,I M.kept.used,I M.kept.head,I M.kept.free,I M.m.root,I M.m.used,I M.m.head,I M.m.free, .map bi, .map bc] 11 [I ((M.m.used+1:Nat):Int)]=[.ptr a 0,lg,I M.first,I M.aE, .map bd, .map bn,I M.kept.root,I M.kept.used,I M.kept.head,I M.kept.free,I M.m.root,I ((M.m.used+1:Nat):Int),I M.m.head,I M.m.free, .map bi, .map bc]:=rfl;obtain⟨k2,g2⟩:=h.CS {M.m with used:=M.m.used+1};simp only[e1,af,ag,aAR,aBf,rJ,bA,ah,az,h.main,ar,aAT,Nat.reduceAdd,aAS,aAQ,au,e2,aBr,e3,Ar,aH,aS,iF,kg];refine⟨⟨rfl,rfl,by simp⟩, ?_⟩;have n2:(St.set st p (.cells [.ptr a 0,lg,I M.first,I M.aE, .map bd, .map bn,I M.kept.root,I M.kept.used,I M.kept.head,I M.kept.free,I M.m.root,I ((M.m.used+1:Nat):Int),I M.m.head,I M.m.free, .map bi, .map bc] 158 false)).next=st.next:=rfl;simp only at k2 g2;generalize St.set st p (.cells [.ptr a 0,lg,I M.first,I M.aE, .map bd, .map bn,I M.kept.root,I M.kept.used,I M.kept.head,I M.kept.free,I M.m.root,I ((M.m.used+1:Nat):Int),I M.m.head,I M.m.free, .map bi, .map bc] 158 false)=s2 at*;obtain⟨v1,i1,mw,v2,i2,lJ,s5,a1,⟨pG,a2,a3,a4⟩,a5,a6,a7⟩:=yb (T:=iN) (n:=M.m.used) g2;rw[<-IE]at a2;have hm:=g2.main;simp only[bG,bA,ah,af,az,hm,ar,aAT,aAS,aAQ,au,I7,a1,aT,aD,aJ,a2,a3,a4];refine⟨⟨trivial,trivial,trivial⟩,trivial,trivial,(k2.mono (by simp)).trans a5 (by simp),by omega,a7⟩
end
section
variable {st st':St} {p a:Nat} {lg:CV} {M:bR} {bd bn bi bc:Nat} {F:List Nat} {D:aV}
def eN (h:Nat):jk:=be 4 h++List.replicate 508 0
theorem rE (h:Nat):(eN h).length=512:=by
 unfold eN;rw[aAY,gV,aBz]
theorem KH (h:Nat):bt (zr 512) 0 (ai (be 4 h))=ai (eN h):=by
 unfold bt eN;rw[bH,aCI,aBw,bF,gV,nb]
 congr 1
def bR.drop (M:bR)(n:Nat):bR:={M with m:={M.m with head:=n,free:=M.m.free+1},now:=gH M.now n (eN M.m.head),count:=mI M.count n,idle:=mI M.idle n}
theorem Tn (h:cG st p a lg M bd bn bi bc){n:Nat}(hu:M.bL n)(h3:M.m.free<=1000000)(h4:M.m.head<=1000000):
 R 95 [.ptr p 0,I n] st fun v st'=>v=I 0/\Kp [p,bn,bi,bc] st st'/\cG st' p a lg (M.drop n) bd bn bi bc:=by
 refine bO ?_;rw[w95];simp only[cX,af,ag,aAR,aBf];refine(uG h n).same ?_;have k2:Kp [] st (St.new st (.cells (zr 512) 173 false)):=(Kp.refl [] st).new _;have g2:(St.new st (.cells (zr 512) 173 false)).mem.get st.next=some (.cells (zr 512) 173 false):=aq _ _;have n2:(St.new st (.cells (zr 512) 173 false)).next=st.next+1:=rfl;simp only[hu,aBV,du,af,aBm,ag,aAR,aBf,cM,aT,bG];generalize St.new st (.cells (zr 512) 173 false)=s2 at*;have Ai:bP 512 1 (.ptr st.next 0) none (some (.int .i64 4)) s2= .ok (.slice st.next 0 4 512 0) s2:=rfl;have h2:=h.keep k2 (by simp);have QN:=h2.main;simp only[Ai,af,bA,ah,az,QN,ar,aAT,Nat.reduceAdd,aAS,aAQ,au];refine(Ht (n:=M.m.head) (len:=4) (off:=0) (cap:=512) g2 (by omega) (by rw[pL];decide) (by omega) (by omega)).mono ?_;rintro _ s3 ⟨k3,n3,g3⟩;rw[KH]at g3;have Fu:(ai (eN M.m.head)).length=512:=by simp[rE]
 have Fh:∀b∈[p,bd,bn,bi,bc],b∉[st.next]:=fun b hb=>by have:=h.lt b hb;simp;omega
 have h3':=h2.keep k3 Fh;have Zx:=h3'.main;obtain⟨v1,i1,mw,v2,i2,lJ,s7,a1,⟨pG,a2,a3,a4⟩,a5,a6,a7⟩:=yb (T:=eN M.m.head) (n:=n) h3';have b6:aI 512 (.ptr st.next 0) s3= .ok (.agg (ai (eN M.m.head))) s3:=aO g3 Fu;have FH:st.next≠bn:=fun e=>by have:=h.lt bn (by simp);omega
 have b7:aI 512 (.ptr st.next 0) (St.set s3 bn mw)= .ok (.agg (ai (eN M.m.head))) (St.set s3 bn mw):=aO ((ak _ _ _ _ FH).trans g3) Fu;have Zw:=a7.main;have e3:∀s,aj .add none true (I M.m.free) (.int .i64 1) s= .ok (I ((M.m.free+1:Nat):Int)) s:=fun s=>by rw[av,cN,bD (by omega)];rfl
 obtain⟨k9,g9⟩:=a7.CS {M.m with head:=n,free:=M.m.free+1};have pC:bt [.ptr a 0,lg,I M.first,I M.aE, .map bd, .map bn,I M.kept.root,I M.kept.used,I M.kept.head,I M.kept.free,I M.m.root,I M.m.used,I M.m.head,I M.m.free, .map bi, .map bc] 12 [I n]=[.ptr a 0,lg,I M.first,I M.aE, .map bd, .map bn,I M.kept.root,I M.kept.used,I M.kept.head,I M.kept.free,I M.m.root,I M.m.used,I n,I M.m.free, .map bi, .map bc]:=rfl;have jR:bt [.ptr a 0,lg,I M.first,I M.aE, .map bd, .map bn,I M.kept.root,I M.kept.used,I M.kept.head,I M.kept.free,I M.m.root,I M.m.used,I n,I M.m.free, .map bi, .map bc] 13 [I ((M.m.free+1:Nat):Int)]=[.ptr a 0,lg,I M.first,I M.aE, .map bd, .map bn,I M.kept.root,I M.kept.used,I M.kept.head,I M.kept.free,I M.m.root,I M.m.used,I n,I ((M.m.free+1:Nat):Int), .map bi, .map bc]:=rfl;obtain⟨blk,u1,u2,u3⟩:=IsMap.update (.inl g9.idle) n (.bool true);simp only at k9 g9 u1 u2 u3;simp only[bA,ah,af,az,Zx,ar,aAT,Nat.reduceAdd,aAS,aAQ,au,b6,b7,a1,aT,aD,aJ,a2,a3,a4,rJ,Zw,e3,Ar,aH,aS,iF,pC,ao,jR,set_set,fH,u1];have nd:=h.nd;simp only[aBi,aAX,aBF,aCA,aCr]at nd;obtain⟨⟨m1,m2,m3,m4⟩,⟨m5,m6,m7⟩,⟨m8,m9⟩,m10,_⟩:=nd;refine⟨⟨trivial,trivial⟩,trivial,⟨trivial,trivial,⟨trivial,trivial⟩,trivial⟩,trivial,⟨rfl,rfl,by simp⟩,⟨rfl,rfl,by simp⟩,trivial, ?_, ?_⟩
 ·have q1:Kp [p,bn,bi,bc] st s3:=(k2.trans k3 (by simp)).mono (by simp);have q2:Kp [p,bn,bi,bc] st s7:=q1.trans a5 (by simp);refine(q2.trans k9 (by simp)).set _ (.inl (by simp)) ?_;have:=g9.lt bi (by simp);exact this
 ·have u4:=u3 g9.idle;rw[yw]at u4;exact⟨(ak _ _ _ blk m3).trans g9.main,g9.dirty.mono (ak _ _ _ blk m6),g9.now.mono (ak _ _ _ blk m8),u4,g9.count.mono (ak _ _ _ blk (aBU m10)),h.nd,g9.lt,h.lgs⟩
end
section
variable {st st':St} {p a:Nat} {lg:CV} {M:bR} {bd bn bi bc:Nat} {F:List Nat} {D:aV}
theorem LP (h:cG st p a lg M bd bn bi bc)(hd:dt st a F D)(tf:D.dead=false)(h1:M.aE<=1000000)(h2:M.m.used<=1000000)(h3:M.m.free<=1000000)(hf:M.ck≠0)(US:0<M.m.free)(h0:M.m.head≠0)
 (hn:M.first+M.m.head<D.ay.length) (hs:(M.get D M.m.head).length=512):
 R 97 [.ptr p 0] st fun v st'=>v= .tuple [I M.m.head,I 0]/\Kp [p,bn,bi,bc] st st'/\cG st' p a lg (M.wG D) bd bn bi bc:=by
 refine bO ?_;rw[w97];simp only[cX,af,ag,aAR,aBf];refine(yL h h1 h2 h3).same ?_;have e1:aj .eql (some .int) true (I M.ck) (.int .i64 0) st= .ok (.bool false) st:=by rw[av,cB,aAW hf]
 have e2:aj .eql (some .int) true (I M.m.head) (.int .i64 0) st= .ok (.bool false) st:=by rw[av,cB,aAW (by omega)]
 simp only[e1,af,ag,aAR,aBf,rJ,bA,ah,az,h.main,ar,aAT,Nat.reduceAdd,aAS,aAQ,au,e2];refine(xW h hd tf hn hs).mono ?_;rintro _ s7 ⟨rfl,k7⟩;have Am:(ai (M.get D M.m.head)).length=512:=by simpa using hs
 simp only[aD,aJ,af];refine kR Am (bE _) ?_;have k9:=k7.page (ai (M.get D M.m.head));have g9:(St.set (St.new s7 (.cells (zr 512) 173 false)) s7.next (.cells (ai (M.get D M.m.head)) 173 false)).mem.get s7.next=some (.cells (ai (M.get D M.m.head)) 173 false):=ao _ _ _;have n9:(St.set (St.new s7 (.cells (zr 512) 173 false)) s7.next (.cells (ai (M.get D M.m.head)) 173 false)).next=s7.next+1:=rfl;generalize St.set (St.new s7 (.cells (zr 512) 173 false)) s7.next (.cells (ai (M.get D M.m.head)) 173 false)=s9 at*;have h9:=h.keep k9 (by simp);have hm9:=h9.main;have Ai:bP 512 1 (.ptr s7.next 0) none (some (.int .i64 4)) s9= .ok (.slice s7.next 0 4 512 0) s9:=rfl;have AK:ai ((M.get D M.m.head).take 4)=(ai (M.get D M.m.head)).take 4:=by simp[ai]
 have kN:Sl s9 [] (.slice s7.next 0 4 512 0) 1 (ai ((M.get D M.m.head).take 4)):= .inr ⟨s7.next,0,4,512,0,rfl,by rw[AK,aBh];omega,⟨by omega, .inl rfl⟩, .inr ⟨by simp,by omega,_,_,_,g9,by omega,by rw[aBx,AK]⟩⟩;simp only[av,fj,aBV,aBm,af,ag,aAR,aBf,bG,Ai];have hl4:((M.get D M.m.head).take 4).length<=4:=by rw[aBh];omega
 refine(sD kN (by omega) (sU _ hl4)).same ?_;have e3:∀s,jr .sub .i64 (M.m.free:Int) .i64 1 s= .ok (I ((M.m.free-1:Nat):Int)) s:=fun s=>by rw[dJ,bD (by omega)];congr 2;omega
 obtain⟨qI,sH⟩:=h9.CS {M.m with head:=mY ((M.get D M.m.head).take 4),free:=M.m.free-1};have pC:bt [.ptr a 0,lg,I M.first,I M.aE, .map bd, .map bn,I M.kept.root,I M.kept.used,I M.kept.head,I M.kept.free,I M.m.root,I M.m.used,I M.m.head,I M.m.free, .map bi, .map bc] 12 [I (mY ((M.get D M.m.head).take 4))]=[.ptr a 0,lg,I M.first,I M.aE, .map bd, .map bn,I M.kept.root,I M.kept.used,I M.kept.head,I M.kept.free,I M.m.root,I M.m.used,I (mY ((M.get D M.m.head).take 4)),I M.m.free, .map bi, .map bc]:=rfl;have jR:bt [.ptr a 0,lg,I M.first,I M.aE, .map bd, .map bn,I M.kept.root,I M.kept.used,I M.kept.head,I M.kept.free,I M.m.root,I M.m.used,I (mY ((M.get D M.m.head).take 4)),I M.m.free, .map bi, .map bc] 13 [I ((M.m.free-1:Nat):Int)]=[.ptr a 0,lg,I M.first,I M.aE, .map bd, .map bn,I M.kept.root,I M.kept.used,I M.kept.head,I M.kept.free,I M.m.root,I M.m.used,I (mY ((M.get D M.m.head).take 4)),I ((M.m.free-1:Nat):Int), .map bi, .map bc]:=rfl;obtain⟨eh,u1,u2,u3⟩:=sH.idle.delete (M.m.head:Int);simp only at qI sH u1 u2 u3;have nd:=h.nd;simp only[aBi,aAX,aBF,aCA,aCr]at nd;obtain⟨⟨m1,m2,m3,m4⟩,⟨m5,m6,m7⟩,⟨m8,m9⟩,m10,_⟩:=nd;have hb9:=sH.lt bi (by simp);rw[Nn]at u3;generalize amS:St.set s9 p (.cells [.ptr a 0,lg,I M.first,I M.aE, .map bd, .map bn,I M.kept.root,I M.kept.used,I M.kept.head,I M.kept.free,I M.m.root,I M.m.used,I (mY ((M.get D M.m.head).take 4)),I ((M.m.free-1:Nat):Int), .map bi, .map bc] 158 false)=bY at*
 have pI:Kp [bi] bY eh:=by
  rcases u2 with rfl|⟨blk,rfl⟩
  ·exact Kp.refl _ _
  ·exact(Kp.refl _ bY).set _ (.inl (by simp)) hb9
 have kk:∀q∈[p,bd,bn,bi,bc],q≠bi->eh.mem.get q=bY.mem.get q:=fun q hq gT=>pI.keep q (sH.lt q hq) (by simpa using gT)
 have h13:cG eh p a lg {M with m:={M.m with head:=mY ((M.get D M.m.head).take 4),free:=M.m.free-1},idle:=yx M.idle M.m.head} bd bn bi bc:=
  ⟨(kk p (by simp) m3).trans sH.main,sH.dirty.mono (kk bd (by simp) m6),sH.now.mono (kk bn (by simp) m8),u3,sH.count.mono (kk bc (by simp) (aBU m10)),h.nd,fun b hb=>aBs (sH.lt b hb) pI.next,h.lgs⟩
 obtain⟨v1,i1,mw,v2,i2,lJ,kx,a1,⟨pG,a2,a3,a4⟩,a5,a6,a7⟩:=yb (T:=iN) (n:=M.m.head) h13;rw[<-IE]at a2;have alf:=h13.main;have OP:=sH.main;simp only[bA,ah,af,az,hm9,ar,aAT,Nat.reduceAdd,aAS,aAQ,au,av,e3,aH,aS,iF,pC,ao,jR,set_set,amS,fH,OP,u1,aT,alf,I7,a1,aD,aJ,a2,a3,a4];have kA:Kp [p,bn,bi,bc] st bY:=(k9.mono (by simp)).trans qI (by simp);have kB:Kp [p,bn,bi,bc] st eh:=kA.trans pI (by simp);exact⟨⟨rfl,rfl,by simp⟩,⟨rfl,rfl,by simp⟩,⟨⟨trivial,trivial⟩,trivial⟩,trivial,⟨trivial,trivial,trivial⟩,trivial,trivial,kB.trans a5 (by simp),a7⟩
end
section
variable {st st':St} {p a:Nat} {lg:CV} {M:bR} {bd bn bi bc:Nat} {F:List Nat} {D:aV}
theorem oY (hd:dt st a F D):R 70 [.ptr a 0] st fun v st'=>v=I ((D.ay.length/4:Nat):Int)/\st'=st:=by
 refine bO ?_;rw[w70];refine(wo hd).same ?_;have hsz:=(show D.ay.length<=65536 from by obtain⟨_,_,_,_,_,_,_,h⟩:=hd;exact h.size)
 have e:aj .quo none true (I D.ay.length) (.int .i64 4) st= .ok (I ((D.ay.length/4:Nat):Int)) st:=by
  have e0:aj .quo none true (I D.ay.length) (.int .i64 4) st= .ok (I (IntKind.i64.wrap (Int.tdiv D.ay.length 4))) st:=rfl;have e1:Int.tdiv (D.ay.length:Int) 4=((D.ay.length/4:Nat):Int):=rfl;rw[e0,e1,bD (by omega)]
 rw[e,af];exact⟨rfl,rfl⟩
def dv (base:Nat):jk:=[98,117,116,116,101,114,121,49]++be 8 base++List.replicate 496 0
theorem qk (base:Nat):(dv base).length=512:=by
 unfold dv;simp only[aAY,gV,aBz,aBt,aCu]
def aV.head (D:aV)(base:Nat):Int×aV:=if (D.write 0 (dv base)).1=0 then (D.write 0 (dv base)).2.flush else D.write 0 (dv base)
theorem JF (hf:cT st)(hd:dt st a F D)(hw:D.waits.length<90000000){base:Nat}(hb:base<9223372036854775808):R 89 [.ptr a 0,I base] st fun v st'=>v=I (D.head base).1/\rX a F st (D.head base).2 st':=by
 refine bO ?_;rw[w89];have k1:Kp [] st (St.new st (.cells (zr 512) 173 false)):=(Kp.refl [] st).new _;have g1:(St.new st (.cells (zr 512) 173 false)).mem.get st.next=some (.cells (zr 512) 173 false):=aq _ _;have n1:(St.new st (.cells (zr 512) 173 false)).next=st.next+1:=rfl;rw[cM,aT];generalize St.new st (.cells (zr 512) 173 false)=s1 at*;have Ai:∀s,bP 512 1 (.ptr st.next 0) none none s= .ok (.slice st.next 0 512 512 0) s:=fun s=>rfl
 have XS:gC true 1 (.slice st.next 0 512 512 0) (.str [98,117,116,116,101,114,121,49]) s1= .ok (I 8) (St.set s1 st.next (.cells (bt (zr 512) 0 (ai [98,117,116,116,101,114,121,49])) 173 false)):=by
  have e:gC true 1 (.slice st.next 0 512 512 0) (.str [98,117,116,116,101,114,121,49]) s1=(match s1.mem.get st.next with
   |some (.cells s ty g)=>Option.rec (Option.rec .bad (fun s'=>ya .i64 ⟨s1.mem.put st.next (some (.cells s' ty g)),s1.next⟩ 8) (AQ s 0 (ai [98,117,116,116,101,114,121,49]) (0+512*0))) (fun s'=>ya .i64 ⟨s1.mem.put st.next (some (.cells s' ty g)),s1.next⟩ 8) (dR s 0 (ai [98,117,116,116,101,114,121,49]))
   |_=> .bad):=rfl
  rw[e,g1];have e3:dR (zr 512) 0 (ai [98,117,116,116,101,114,121,49])=some (bt (zr 512) 0 (ai [98,117,116,116,101,114,121,49])):=by unfold dR;rw[aBb (by rw[pL];decide)];rfl
  dsimp only;rw[e3];rfl
 have akM:bt (zr 512) 0 (ai [98,117,116,116,101,114,121,49])=ai [98,117,116,116,101,114,121,49]++ai (List.replicate 504 0):=by
  have e:zr 512=ai (List.replicate 8 0)++ai (List.replicate 504 0):=by rw[nb,<-bH,List.replicate_append_replicate]
  rw[e];rfl
 rw[akM]at XS;have hs8:∀s,bP 512 1 (.ptr st.next 0) (some (.int .i64 8)) (some (.int .i64 16)) s= .ok (.slice st.next 8 8 504 0) s:=fun s=>rfl;simp only[Ai,af,XS,aT,hs8];have k2:Kp [] st (St.set s1 st.next (.cells (ai [98,117,116,116,101,114,121,49]++ai (List.replicate 504 0)) 173 false)):=k1.set _ (.inr (aAU _)) (by omega);have g2:(St.set s1 st.next (.cells (ai [98,117,116,116,101,114,121,49]++ai (List.replicate 504 0)) 173 false)).mem.get st.next=some (.cells (ai [98,117,116,116,101,114,121,49]++ai (List.replicate 504 0)) 173 false):=ao _ _ _;have n2:(St.set s1 st.next (.cells (ai [98,117,116,116,101,114,121,49]++ai (List.replicate 504 0)) 173 false)).next=s1.next:=rfl;generalize St.set s1 st.next (.cells (ai [98,117,116,116,101,114,121,49]++ai (List.replicate 504 0)) 173 false)=s2 at*;refine(Ht (n:=base) (len:=8) (off:=8) (cap:=504) g2 (by omega) (by simp) (by omega) hb).mono ?_;rintro _ s3 ⟨k3,n3,g3⟩
 have pC:bt (ai [98,117,116,116,101,114,121,49]++ai (List.replicate 504 0)) 8 (ai (be 8 base))=ai (dv base):=by
  have e:=pq (ai [98,117,116,116,101,114,121,49]) (ai (List.replicate 504 0)) (ai (be 8 base));have e2:(ai [98,117,116,116,101,114,121,49]).length=8:=rfl
  have e3:(ai (List.replicate 504 0)).drop (ai (be 8 base)).length=ai (List.replicate 496 0):=by
   unfold ai;rw[<-aCt,aDc,aCa,gV]
  rw[e2,e3]at e;rw[e];unfold dv;rw[bH,bH,aBE]
 rw[pC]at g3;have hl:=qk base;have Mc:(ai (dv base)).length=512:=by simpa using hl
 have Zd:Kp [] st s3:=k2.trans k3 (by simp);have kN:Sl s3 F (.slice st.next 0 512 512 0) 1 (ai (dv base)):= .inr ⟨st.next,0,512,512,0,rfl,by omega,⟨aAU _, .inl rfl⟩, .inr ⟨fun h=>by have:=hd.lt _ h;omega,by omega,_,_,_,g3,by omega,by rw[aBx,aBa (by omega)]⟩⟩;refine(uD (i:=0) (hd.keep Zd (by simp)) (Zd.fresh hf) (by omega) kN hl).mono ?_;rintro _ s4 ⟨rfl,k4,F',d4,qN⟩;have Lj:∀b∈F',b∈F\/st.next<=b:=fun b hb=>(qN b hb).imp id fun h=>by have:=Zd.next;omega
 unfold aV.head
 by_cases hz:(D.write 0 (dv base)).1=0
 ·rw[aBb hz];obtain⟨z1,z2,z3⟩:=yi hz;simp only[hz,av,fj,aBV,aBm,af,ag,aAR,aBf];refine(vF d4 (by rw[z2];simp;omega)).mono ?_;rintro _ s5 ⟨rfl,k5,F2,d5,zx⟩;exact⟨rfl,((Zd.mono (fun q hq=>by simp at hq)).trans k4 (fun q hq=> .inl hq)).trans k5 Lj,F2,d5,fun b hb=>(zx b hb).elim (Lj b) fun h=> .inr (by have:=Zd.next;have:=k4.next;omega)⟩
 ·rw[aAZ hz];simp only[av,fj,hz,aCy,aBk,af,ag,aBr];exact⟨trivial,(Zd.mono (fun q hq=>by simp at hq)).trans k4 (fun q hq=> .inl hq),F',d4,Lj⟩
end
