import Derived.Test.YtomffjeofpafnaaGreatDoorRingB
namespace Lim
open Go
noncomputable section
set_option linter.defProp false
set_option maxRecDepth 100000
section
variable {st st':St}
def og (l:List UInt8):Nat:=l.foldl (λa b=>a*256+b.toNat) 0
def sG (l:List UInt8)(b:UInt8):og (l++[b])=og l*256+b.toNat:=by simp[og]
def be (k n:Nat):List UInt8:=(le k n).reverse
def gZ (k n:Nat):(be k n).length=k:=by simp[be,ig]
def yH (k n:Nat):be (k+1) n=UInt8.ofNat (n/256^k%256)::be k n:=by simp[be,le]
def Qm (k:Nat):∀n acc:Nat,(be k n).foldl (λa b=>a*256+b.toNat) acc=acc*256^k+n%256^k:=by
 induction k with
 |zero=>intro n acc;simp[be,le,Nat.mod_one]
 |succ k ih=>
  intro n acc;rw[yH,List.foldl_cons,ih];have h1:(UInt8.ofNat (n/256^k%256)).toNat=n/256^k%256:=rq
  have h2:n%256^(k+1)=n%256^k+256^k*(n/256^k%256):=by rw[aFY,Nat.mod_mul]
  rw[h1,h2,aFY,aEz,Nat.mul_assoc,aFs 256 (256^k),aFs (n/256^k%256)];omega
def uU (k n:Nat)(h:n<256^k):og (be k n)=n:=by
 unfold og;rw[Qm,Nat.zero_mul,aDx,aFn h]
def BK (a m k:Nat)(h:a<2^k)(hs:a+m*2^k<9223372036854775808)(d:Option jX)(c:Bool)(st:St):ai .or d c (I ((m*2^k:Nat):Int)) (I a) st=.ok (I ((m*2^k+a:Nat):Int)) st:=by
 have e:ai .or d c (I ((m*2^k:Nat):Int)) (I a) st=(match jP .or .i64 ((m*2^k:Nat):Int) (a:Int)with|some r=>.ok (.int .i64 r) st|none=>.bad):=rfl
 have e2:jP .or .i64 ((m*2^k:Nat):Int) (a:Int)=jP .or .i64 (a:Int) ((m*2^k:Nat):Int):=by
  show some (IntKind.i64.wrap ((BitVec.ofInt 64 _|||BitVec.ofInt 64 _).toNat:Int))=some (IntKind.i64.wrap ((BitVec.ofInt 64 _|||BitVec.ofInt 64 _).toNat:Int));rw[BitVec.or_comm]
 rw[e,e2,UR a m k h hs,aGg]
def sY {X:List Nat}{v:CV}{l:List UInt8}(h:Sl st X v 1 (aj l))(hl:l.length<=1000)(hb:∀i,og (l.take i)<=4611686018427387904):R 71 [v] st λx st'=>x=I (og l)/\st'=st:=by
 refine bN ?_;rw[w71];have hlen:=h.len l.length rq pX st;show us _ _;rw[hlen,af];show db _ _ _;simp only[aH,aI];refine bK (λfu vs s=>∃i,fu+i=l.length/\vs=[I (og (l.take i)),v,I l.length,I i]/\s=st) ?_ (n:=l.length) ⟨0,rfl,rfl,rfl⟩;rintro fu vs s k ⟨i,hi,rfl,rfl⟩ next;simp only[aH,aI]
 by_cases hc:i<l.length
 .have a1:ai .lss none false (I i) (I l.length) s=.ok (.bool true) s:=by rw[ay,cY,aDz pX]
  have KB:=hb i;have HH:=hb (i+1);have zP:l.take (i+1)=l.take i++[l[i]]:=by rw[aDH hc]
  rw[zP,sG]at HH;have hlt:(l[i]).toNat<256:=(l[i]).toNat_lt
  have a2:ai .shl none true (I (og (l.take i))) (.int .u64 8) s=.ok (I ((og (l.take i)*2^8:Nat):Int)) s:=by
   have e:ai .shl none true (I (og (l.take i))) (.int .u64 8) s=.ok (I (IntKind.i64.wrap ((og (l.take i):Int)*2^8))) s:=rfl;rw[e,bB pX];simp
  have a3:dy (.toInt .i64) (bP l[i]) s=.ok (I (l[i]).toNat) s:=EL _ pX _ _;have a4:ai .or none false (I ((og (l.take i)*2^8:Nat):Int)) (I (l[i]).toNat) s=.ok (I ((og (l.take i)*2^8+(l[i]).toNat:Nat):Int)) s:=BK _ _ _ pX pX _ _ _;have a5:ai .add none true (I i) (.int .i64 1) s=.ok (I ((i+1:Nat):Int)) s:=CE
  simp only[a1,af,ag,aDQ,a2];refine h.idx Hw _ ?_;have hg:(aj l)[i]'(by simpa using hc)=bP l[i]:=aaF
  rw[hg,a3,af,a4,af,a5,af];exact next (fu-1) _ _ pX ⟨i+1,pX,by rw[zP,sG],rfl⟩
 .have a1:ai .lss none false (I i) (I l.length) s=.ok (.bool false) s:=by rw[ay,cY,aDr pX]
  simp only[a1,af,ag,aDp,aDE];rw[aDA pX];exact⟨rfl,adu⟩
def BL (L T:List CV)(p:Nat)(x:CV)(h:p+1+T.length<=L.length):bo (bo L (p+1) T) p [x]=bo L p (x::T):=by
 unfold bo
 have e1:(L.take (p+1)++(T++L.drop (p+1+T.length))).take p=L.take p:=by
  rw[List.take_append_of_le_length Ws,aEH,aEi pX]
 have e2:(L.take (p+1)++(T++L.drop (p+1+T.length))).drop (p+1)=T++L.drop (p+1+T.length):=by
  rw[List.drop_append,aEa Ws,aDF,aEi pX,Nat.sub_self,aDX,aDV]
 simp only[aDT,aEO,aDx];rw[e1,e2];have e3:p+(T.length+1)=p+1+T.length:=pX
 rw[e3];rfl
def zC (L:List CV)(p:Nat):bo L p []=L:=by unfold bo;simp
def Io {b off len cap n:Nat}{L:List CV}{t:TypeId}{g:Bool}(hb:st.m.g b=some (.cells L t g))(Ey:b<st.nx)(hL:off+len<=L.length)(hlen:len<=8)(hn:n<9223372036854775808):
 R 135 [.slice b off len cap 0,I n] st λx st'=>Kp [b] st st'/\st'.nx=st.nx/\st'.m.g b=some (.cells (bo L off (aj (be len n))) t g):=by
 refine bN ?_;rw[ajL];simp only[cK,nQ,af,aH,aI]
 refine bK (λfu vs s=>∃i,fu+i=len/\vs=[.slice b off len cap 0,I n,I len,I i]/\Kp [b] st s/\s.nx=st.nx/\s.m.g b=some (.cells (bo L (off+len-i) (aj (be i n))) t g)) ?_ (n:=len) ⟨0,rfl,rfl,Kp.refl _ _,rfl,by
  have:aj (be 0 n)=[]:=rfl;rw[this,zC];exact hb⟩
 rintro fu vs s k ⟨i,hi,rfl,hk,IS,hg⟩ next;simp only[aH,aI]
 by_cases hc:i<len
 .have a1:ai .lss none false (I i) (I len) s=.ok (.bool true) s:=by rw[ay,cY,aDz pX]
  have a2:ai .sub none true (I len) (.int .i64 1) s=.ok (I ((len-1:Nat):Int)) s:=EH
  have a3:ai .sub none false (I ((len-1:Nat):Int)) (I i) s=.ok (I ((len-1-i:Nat):Int)) s:=EH
  have a4:ai .mul none true (.int .i64 8) (I i) s=.ok (I ((8*i:Nat):Int)) s:=Sd
  have a5:cQ 1 (.slice b off len cap 0) (I ((len-1-i:Nat):Int)) s=.ok (.ptr b (off+(len-1-i)*1)) s:=fU pX (.inl rfl) s;have a6:∀s,ai .add none true (I i) (.int .i64 1) s=.ok (I ((i+1:Nat):Int)) s:=λs=>CE
  simp only[a1,af,ag,aDQ,nQ,a2,a3,a4,CU _ _ (show i<8 from pX),NJ,Ga,a5,aF,hg,aS,a6];have e1:off+(len-1-i)*1=off+len-(i+1):=pX
  have e2:off+len-i=off+len-(i+1)+1:=pX
  have si:=gZ i n
  have e3:bo (bo L (off+len-i) (aj (be i n))) (off+len-(i+1)) [bP (UInt8.ofNat (n/256^i%256))]=bo L (off+len-(i+1)) (aj (be (i+1) n)):=by
   rw[e2,BL _ _ _ _ ada,yH];rfl
  have Ts:(bP (UInt8.ofNat (n/256^i%256))).cA=[bP (UInt8.ofNat (n/256^i%256))]:=rfl;rw[e1,Ts,e3];refine⟨⟨rfl,rfl,abp⟩,next (fu-1) _ _ pX ⟨i+1,pX,rfl,hk.set _ (.inl rq) pX,IS,aq _ _ _⟩⟩
 .have a1:ai .lss none false (I i) (I len) s=.ok (.bool false) s:=by rw[ay,cY,aDr pX]
  simp only[a1,af,ag,aDp,aDE];have Ew:i=len:=pX
  subst Ew;rw[aEL]at hg;exact⟨hk,IS,hg⟩
end
structure iA where
 root:Nat
 used:Nat
 head:Nat
 free:Nat
structure bQ where
 first:Nat
 aE:Nat
 dirty:List (Nat×iJ)
 now:List (Nat×iJ)
 kept:iA
 m:iA
 idle:List Nat
 count:List Nat
def gE (l:List (Nat×iJ)):MZ:=l.map λp:Nat×iJ=>(Int.ofNat p.1,CV.agg (aj p.2))
def tJ (l:List Nat):MZ:=l.map λn:Nat=>(Int.ofNat n,CV.bool true)
def cX (l:List (Nat×iJ))(n:Nat):Option iJ:=match l with|[]=>none|p::r=>if n=p.1 then some p.2 else cX r n
def gW (l:List (Nat×iJ))(n:Nat)(s:iJ):List (Nat×iJ):=match l with|[]=>[(n,s)]|p::r=>if n=p.1 then (n,s)::r else p::gW r n s
def nh (l:List Nat)(n:Nat):List Nat:=match l with|[]=>[n]|p::r=>if n=p then p::r else p::nh r n
def yZ (l:List Nat)(n:Nat):List Nat:=match l with|[]=>[]|p::r=>if n=p then r else p::yZ r n
def vy (l:List (Nat×iJ))(n:Nat):ji (gE l) n=(cX l n).map λs=>.agg (aj s):=by
 induction l with
 |nil=>rfl
 |cons p r ih=>
  show(if (n:Int)=(p.1:Int)then some (CV.agg (aj p.2))else ji (gE r) n)=_;simp only[cX]
  by_cases h:n=p.1
  .rw[aDy h,aDy pX];rfl
  .rw[aDv h,aDv pX];exact ih
def vx (l:List (Nat×iJ))(n:Nat)(s:iJ):mQ (gE l) n (.agg (aj s))=gE (gW l n s):=by
 induction l with
 |nil=>rfl
 |cons p r ih=>
  show(if (n:Int)=(p.1:Int)then ((n:Int),CV.agg (aj s))::gE r else ((p.1:Int),CV.agg (aj p.2))::mQ (gE r) n (.agg (aj s)))=_;simp only[gW]
  by_cases h:n=p.1
  .rw[aDy h,aDy pX];rfl
  .rw[aDv h,aDv pX,ih];rfl
def EV (l:List Nat)(n:Nat):ji (tJ l) n=if n∈l then some (.bool true)else none:=by
 induction l with
 |nil=>rfl
 |cons p r ih=>
  show(if (n:Int)=(p:Int)then some (CV.bool true)else ji (tJ r) n)=_
  by_cases h:n=p
  .rw[aDy pX,aDy WE]
  .rw[aDv pX,ih];simp[h]
def yW (l:List Nat)(n:Nat):mQ (tJ l) n (.bool true)=tJ (nh l n):=by
 induction l with
 |nil=>rfl
 |cons p r ih=>
  show(if (n:Int)=(p:Int)then ((n:Int),CV.bool true)::tJ r else ((p:Int),CV.bool true)::mQ (tJ r) n (.bool true))=_;simp only[nh]
  by_cases h:n=p
  .rw[aDy h,aDy pX,h];rfl
  .rw[aDv h,aDv pX,ih];rfl
def Oe (l:List Nat)(n:Nat):qp (tJ l) n=tJ (yZ l n):=by
 induction l with
 |nil=>rfl
 |cons p r ih=>
  show(if (n:Int)=(p:Int)then tJ r else ((p:Int),CV.bool true)::qp (tJ r) n)=_;simp only[yZ]
  by_cases h:n=p
  .rw[aDy h,aDy pX]
  .rw[aDv h,aDv pX,ih];rfl
structure cC (st:St)(p a:Nat)(lg:CV)(M:bQ)(bd bn bi bc:Nat):Prop where
 main:st.m.g p=some (.cells [.ptr a 0,lg,I M.first,I M.aE,.map bd,.map bn,I M.kept.root,I M.kept.used,I M.kept.head,I M.kept.free,I M.m.root,I M.m.used,I M.m.head,I M.m.free,.map bi,.map bc] 158 false)
 dirty:IsMap st bd (gE M.dirty)
 now:dt st bn (gE M.now)
 idle:dt st bi (tJ M.idle)
 count:dt st bc (tJ M.count)
 nd:[p,bd,bn,bi,bc].Nodup
 lt:∀b∈[p,bd,bn,bi,bc],b<st.nx
 lgs:lg.cA=[lg]/\ck lg=true/\lg.isAny=false
section
variable {st st':St} {p a:Nat} {lg:CV} {M:bQ} {bd bn bi bc:Nat}
def cC.keep {X:List Nat}(h:cC st p a lg M bd bn bi bc)(hk:Kp X st st')(hx:∀b∈[p,bd,bn,bi,bc],b∉X):cC st' p a lg M bd bn bi bc:=by
 have k:=λb hb=>hk.keep b (h.lt b hb) (hx b hb);exact⟨(k p rq).trans h.main,h.dirty.mono (k bd rq),h.now.mono (k bn rq),h.idle.mono (k bi rq),h.count.mono (k bc rq),h.nd,λb hb=>aDM (h.lt b hb) hk.nx,h.lgs⟩
def bQ.cP (M:bQ):Int:=(M.aE:Int)-M.m.used+M.m.free
def bQ.bS (M:bQ)(n:Nat):Prop:=0<n/\n<M.m.used/\n∉M.idle
instance (M:bQ) (n:Nat):Decidable (M.bS n):=by unfold bQ.bS;infer_instance
def zp (h:cC st p a lg M bd bn bi bc)(h1:M.aE<=1000000)(h2:M.m.used<=1000000)(h3:M.m.free<=1000000):R 62 [.ptr p 0] st λv st'=>v=I M.cP/\st'=st:=by
 refine bN ?_;rw[w62];have e1:IntKind.i64.wrap ((M.aE:Int)-M.m.used)=(M.aE:Int)-M.m.used:=bB pX;have e2:IntKind.i64.wrap ((M.aE:Int)-M.m.used+M.m.free)=M.cP:=bB pX;simp[h.main,e1,e2]
def SA (h:cC st p a lg M bd bn bi bc):R 54 [.ptr p 0] st λv st'=>v=I M.m.root/\st'=st:=by
 refine bN ?_;rw[w54];simp[sn,h.main]
def vm (h:cC st p a lg M bd bn bi bc)(n:Nat):R 101 [.ptr p 0,I n] st λv st'=>v=.bool (decide (M.bS n))/\st'=st:=by
 refine bN ?_;rw[akk];have zV:=IsMap.lookup (.inl h.idle) (.bool false) false n st rfl;rw[aDv wI,EV]at zV;unfold bQ.bS
 by_cases h1:0<n
 .by_cases h2:n<M.m.used
  .by_cases h3:n∈M.idle
   .rw[aDy h3]at zV;simp[h1,h2,h3,jV,kK,h.main,zV]
   .rw[aDv h3]at zV;simp[h1,h2,h3,jV,kK,h.main,zV]
  .simp[h1,h2,jV,kK,h.main]
 .have:n=0:=by omega
  subst this;simp[jV,kK]
def HX (h:cC st p a lg M bd bn bi bc)(n:Nat)(hn:n=0\/M.bS n):R 49 [.ptr p 0,I n] st λv st'=>v=I 0/\Kp [p] st st'/\st'.nx=st.nx/\cC st' p a lg {M with m:={M.m with root:=n}} bd bn bi bc:=by
 refine bN ?_;rw[w49];have nd:=h.nd;simp only[aDG,aDs,aEe,aEW,aEM]at nd
 have fin:AT 1 10 0 (.ptr p 0) (I n) st λs2=>(I 0=I 0/\Kp [p] st s2/\s2.nx=st.nx/\cC s2 p a lg {M with m:={M.m with root:=n}} bd bn bi bc):=by
  have kq:∀r,bo [CV.ptr a 0,lg,I M.first,I M.aE,.map bd,.map bn,I M.kept.root,I M.kept.used,I M.kept.head,I M.kept.free,I r,I M.m.used,I M.m.head,I M.m.free,.map bi,.map bc] 10 [I n]=[CV.ptr a 0,lg,I M.first,I M.aE,.map bd,.map bn,I M.kept.root,I M.kept.used,I M.kept.head,I M.kept.free,I n,I M.m.used,I M.m.head,I M.m.free,.map bi,.map bc]:=λ_=>rfl;simp only[AT,br,ah,af,aF,h.main,aS,iL,aDx,aEb,kq];have hlt:=h.lt p rq;have hk:Kp [p] st (St.set st p (.cells [CV.ptr a 0,lg,I M.first,I M.aE,.map bd,.map bn,I M.kept.root,I M.kept.used,I M.kept.head,I M.kept.free,I n,I M.m.used,I M.m.head,I M.m.free,.map bi,.map bc] 158 false)):=(Kp.refl _ st).set _ (.inl rq) hlt;refine⟨⟨rfl,rfl,rq⟩,adu,hk,rfl,aq _ _ _,h.dirty.mono (al _ _ _ _ (aEr nd.1.1)),h.now.mono (al _ _ _ _ (aEr nd.1.2.1)),h.idle.mono (al _ _ _ _ (aEr nd.1.2.2.1)),h.count.mono (al _ _ _ _ (aEr nd.1.2.2.2)),h.nd,h.lt,h.lgs⟩
 by_cases h0:n=0
 .subst h0;simp
  simpa using fin
 .have hu:=hn.resolve_left h0;have e0:¬(n:Int)=0:=by omega
  simp[h0];refine(vm h n).same ?_;simp[hu]
  simpa using fin
end
section
variable {st st':St} {p a:Nat} {lg:CV} {M:bQ} {bd bn bi bc:Nat} {F:List Nat} {D:aP}
def bQ.get (M:bQ)(D:aP)(n:Nat):iJ:=match cX M.now n with|some s=>s|none=>match cX M.dirty n with|some s=>s|none=>D.cur (M.first+n)
def JT (s:iJ)(h:s.length=512):bo (zr 512) 0 (aj s)=aj s:=dZ _ _ (by rw[bJ,h];exact List.length_replicate.symm)
def pU:(zr 512).length=512:=aEo
def Nj:aU (zr 512)=true:=by rw[nI];exact bC _
def lJ {s:St}{T:List CV}{K:CV->St->Prop}(hl:T.length=512)(ho:aU T=true)(hK:K (.ptr s.nx 0) (St.set (St.new s (.cells (zr 512) 173 false)) s.nx (.cells T 173 false))):
 upon (dG 173 (zr 512) s) λx s2=>upon (aQ 512 x (.agg T) s2) λ_ s3=>K x s3:=by
 rw[cE,aT,aF,aw];have:bo (zr 512) 0 T=T:=dZ _ _ (by rw[hl];exact pU.symm);rw[aS,aV,this];exact⟨⟨hl,ho,by rw[pU];exact aDt _⟩,hK⟩
def Kp.page {X:List Nat}{s s2:St}(h:Kp X s s2)(T:List CV):Kp X s (St.set (St.new s2 (.cells (zr 512) 173 false)) s2.nx (.cells T 173 false)):=(h.new _).set _ (.inr h.nx) rq
def yw (h:cC st p a lg M bd bn bi bc)(hd:cG st a F D)(nZ:D.dead=false){n:Nat}(hn:M.first+n<D.ao.length)(hs:(M.get D n).length=512):
 R 123 [.ptr p 0,I n] st λv st'=>v=.tuple [.agg (aj (M.get D n)),I 0]/\Kp [] st st':=by
 refine bN ?_;rw[ajS];have hsz:=(show D.ao.length<=65536 from by obtain⟨_,_,_,_,_,_,_,h⟩:=hd;exact h.size);have k1:Kp [] st (St.new st (.cells (zr 512) 173 false)):=(Kp.refl [] st).new _;have g1:(St.new st (.cells (zr 512) 173 false)).m.g st.nx=some (.cells (zr 512) 173 false):=aw _ _;have n1:(St.new st (.cells (zr 512) 173 false)).nx=st.nx+1:=rfl;rw[cE,aT];generalize St.new st (.cells (zr 512) 173 false)=s1 at*;have h1:=h.keep k1 rq;have xh:=IsMap.lookup (.inl h1.now) (.agg (zr 512)) true n s1 rfl;rw[aDy rfl,vy]at xh;simp only[eW,br,ah,af,aC,h1.main,ar,aDx,aDq,aDo,az,xh,aD,aG]
 have fin:∀(s:St) (T:iJ),T.length=512->T=M.get D n->Kp [] st s->s.m.g st.nx=some (.cells (zr 512) 173 false)->st.nx<s.nx->
  upon (aQ 512 (.ptr st.nx 0) (.agg (aj T)) s) λ_ s4=>us (aK 512 (.ptr st.nx 0) s4) λx8=>(CV.tuple [x8,I 0]=.tuple [.agg (aj (M.get D n)),I 0]/\Kp [] st s4):=by
  intro s T hT he hk hg hlt;rw[aF,hg,aS,aV,JT T hT];have AO:(aj T).length=512:=abl
  refine⟨⟨AO,bC _,by rw[pU];exact aDt _⟩,?_⟩;rw[aR (n:=512) (aq s st.nx (.cells (aj T) 173 false)) AO,af];exact⟨by rw[he],hk.set _ (.inr (aDt _)) hlt⟩
 cases hp:cX M.now n with
 |some T=>
  have he:T=M.get D n:=by unfold bQ.get;rw[hp]
  have hT:T.length=512:=by rw[he];exact hs
  have AO:(aj T).length=512:=abl
  simp only[aED,aFa,Option.isSome_some];refine lJ AO (bC _) ?_;rw[ag,aDy rfl,aR (n:=512) (aq (St.new s1 (.cells (zr 512) 173 false)) s1.nx (.cells (aj T) 173 false)) AO,af];exact fin _ T hT he (k1.page _) aav AI
 |none=>
  simp only[Option.map_none,Option.getD_none,Option.isSome_none];refine lJ pU Nj ?_;have k3:=k1.page (zr 512);have g3:(St.set (St.new s1 (.cells (zr 512) 173 false)) s1.nx (.cells (zr 512) 173 false)).m.g st.nx=some (.cells (zr 512) 173 false):=aav
  have n3:(St.set (St.new s1 (.cells (zr 512) 173 false)) s1.nx (.cells (zr 512) 173 false)).nx=s1.nx+1:=rfl;generalize St.set (St.new s1 (.cells (zr 512) 173 false)) s1.nx (.cells (zr 512) 173 false)=s3 at*;have h3:=h.keep k3 rq;have Me:=IsMap.lookup h3.dirty (.agg (zr 512)) true n s3 rfl;rw[aDy rfl,vy]at Me;simp only[ag,aDp,aDE,af,h3.main,ar,aDq,aDo,az,Me,aD,aG];cases hq:cX M.dirty n with
  |some T=>
   have he:T=M.get D n:=by unfold bQ.get;rw[hp,hq]
   have hT:T.length=512:=by rw[he];exact hs
   have AO:(aj T).length=512:=abl
   simp only[aED,aFa,Option.isSome_some];refine lJ AO (bC _) ?_;rw[aDy trivial,aR (n:=512) (aq (St.new s3 (.cells (zr 512) 173 false)) s3.nx (.cells (aj T) 173 false)) AO,af];exact fin _ T hT he (k3.page _) aaw AI
  |none=>
   have he:D.cur (M.first+n)=M.get D n:=by unfold bQ.get;rw[hp,hq]
   simp only[Option.map_none,Option.getD_none,Option.isSome_none];refine lJ pU Nj ?_;have k5:=k3.page (zr 512);have g5:(St.set (St.new s3 (.cells (zr 512) 173 false)) s3.nx (.cells (zr 512) 173 false)).m.g st.nx=some (.cells (zr 512) 173 false):=aaw
   have n5:(St.set (St.new s3 (.cells (zr 512) 173 false)) s3.nx (.cells (zr 512) 173 false)).nx=s3.nx+1:=rfl;generalize St.set (St.new s3 (.cells (zr 512) 173 false)) s3.nx (.cells (zr 512) 173 false)=s5 at*;have h5:=h.keep k5 rq;have d5:=hd.keep k5 rq;have a1:ai .add none false (I M.first) (I n) s5=.ok (I ((M.first+n:Nat):Int)) s5:=CE
   simp only[aDp,aDE,bA,af,h5.main,ar,aDq,aDo,az,a1];refine(yv d5 ((M.first+n:Nat):Int)).mono ?_;intro x s8 hx
   have er:D.read ((M.first+n:Nat):Int)=(0,D.cur (M.first+n)):=by
    unfold aP.read;rw[aDv (by simp[nZ]),aDv pX,aGb]
   rw[er,aDy rfl]at hx;obtain⟨k8,hl,b,rfl,g8,b1,b2⟩:=hx;have n8:=k8.nx;have HC:oJ 512 (.slice b 0 512 512 1) s8=.ok (.ptr b 0) s8:=rfl;have M7:(aj (D.cur (M.first+n))).length=512:=acT
   simp only[aD,aG,af,ay,fq,aEq,aDJ,ag,aDp,aDE,HC,aR g8 M7];refine⟨⟨adu,adu,adu⟩,adu,?_⟩;exact fin s8 _ hl he (k5.trans k8 rq) ((k8.keep _ pX rq).trans g5) pX
end
section
variable {st st':St} {p a:Nat} {lg:CV} {M:bQ} {bd bn bi bc:Nat} {F:List Nat} {D:aP}
def OC (h:cC st p a lg M bd bn bi bc)(hd:cG st a F D)(nZ:D.dead=false){n:Nat}(hu:M.bS n)(hn:M.first+n<D.ao.length)(hs:(M.get D n).length=512):
 R 137 [.ptr p 0,I n] st λv st'=>Got (M.get D n) st v st':=by
 refine bN ?_;rw[ajJ];simp only[c8,af,ag,aDp,aDE];refine(vm h n).same ?_;simp only[hu,aEq,cN,af,aDJ,ag,aDp,aDE];refine(yw h hd nZ hn hs).mono ?_;rintro _ s2 ⟨rfl,k2⟩;have AO:(aj (M.get D n)).length=512:=aas
 simp only[aD,aG,af];refine lJ AO (bC _) ?_;have k4:=k2.page (aj (M.get D n));have g4:(St.set (St.new s2 (.cells (zr 512) 173 false)) s2.nx (.cells (aj (M.get D n)) 173 false)).m.g s2.nx=some (.cells (aj (M.get D n)) 173 false):=aq _ _ _;have n4:(St.set (St.new s2 (.cells (zr 512) 173 false)) s2.nx (.cells (aj (M.get D n)) 173 false)).nx=s2.nx+1:=rfl;generalize St.set (St.new s2 (.cells (zr 512) 173 false)) s2.nx (.cells (aj (M.get D n)) 173 false)=s4 at*;have AL:bR 512 1 (.ptr s2.nx 0) none none s4=.ok (.slice s2.nx 0 512 512 0) s4:=rfl;simp only[ay,fq,aEq,aDJ,af,ag,aDp,aDE,AL];have lu:Sl s4 [] (.slice s2.nx 0 512 512 0) 1 (aj (M.get D n)):=.inr ⟨s2.nx,0,512,512,0,rfl,pX,⟨aDt _,.inl rfl⟩,.inr ⟨rq,pX,_,_,_,g4,pX,Wu⟩⟩;refine(wq lu pX).mono ?_;rintro x s5 ⟨F',q1,q2,q3,q4⟩;obtain⟨b,n',r1,r2,r3,r4,r5⟩:=q2.row pX;have:n'=512:=pX
 subst this;have hb:=q3 b (by simp[r1]);exact⟨k4.trans q1 rq,hs,b,by rw[r3],r5,by have:=k4.nx;omega,hb.2⟩
def yz {s:St}{T:iJ}{n:Nat}(h:cC s p a lg M bd bn bi bc):
 ∃v1 e1 mU v2 e2 ml s5,fE .int (.agg (zr 512)) (.map bn) (I n) s=.ok (.tuple [v1,I e1]) (St.set s bn mU)/\
  (∃pQ,dS (.map bn) (I e1) (.agg (aj T)) (St.set s bn mU)=.ok .undef (St.set s bn pQ)/\
  fE .int (.bool false) (.map bc) (I n) (St.set s bn pQ)=.ok (.tuple [v2,I e2]) (St.set (St.set s bn pQ) bc ml)/\
  dS (.map bc) (I e2) (.bool true) (St.set (St.set s bn pQ) bc ml)=.ok .undef s5)/\Kp [bn,bc] s s5/\s5.nx=s.nx/\cC s5 p a lg {M with now:=gW M.now n T,count:=nh M.count n} bd bn bi bc:=by
 have nd:=h.nd;simp only[aDG,aDs,aEe,aEW,aEM]at nd;obtain⟨⟨n1,n2,n3,n4⟩,⟨n5,n6,n7⟩,⟨n8,n9⟩,LR,_⟩:=nd;obtain⟨v1,e1,mU,a1,a2⟩:=h.now.entry (.agg (zr 512)) n;obtain⟨pQ,a3,a4⟩:=a2 (.agg (aj T)) _ (aq s bn mU);rw[set_set]at a3 a4;have hc:dt (St.set s bn pQ) bc (tJ M.count):=h.count.mono (al _ _ _ _ (aEr n9));obtain⟨v2,e2,ml,b1,b2⟩:=hc.entry (.bool false) n;obtain⟨agB,b3,b4⟩:=b2 (.bool true) _ (aq (St.set s bn pQ) bc ml);rw[set_set]at b3 b4;rw[vx]at a4;rw[yW]at b4;have l1:=h.lt bn rq;have l2:=h.lt bc rq;have kk:∀q,q≠bn->q≠bc->(St.set (St.set s bn pQ) bc agB).m.g q=s.m.g q:=λq h1 h2=>(al _ _ _ _ h2).trans (al _ _ _ _ h1);refine⟨v1,e1,mU,v2,e2,ml,_,a1,⟨pQ,a3,b1,b3⟩,((Kp.refl _ s).set _ (.inl rq) l1).set _ (.inl rq) l2,rfl,?_,h.dirty.mono (kk bd n5 n7),a4.mono (al _ _ _ _ n9),h.idle.mono (kk bi (aEr n8) LR),b4,h.nd,h.lt,h.lgs⟩;exact(kk p n2 n4).trans h.main
def LA (h:cC st p a lg M bd bn bi bc){n:Nat}(hu:M.bS n){v:CV}{T:iJ}(hv:Sl st [bn,bc] v 1 (aj T))(hT:T.length=512):
 R 99 [.ptr p 0,I n,v] st λx st'=>x=I 0/\Kp [bn,bc] st st'/\st'.nx=st.nx/\cC st' p a lg {M with now:=gW M.now n T,count:=nh M.count n} bd bn bi bc:=by
 refine bN ?_;rw[w99];simp only[c8,af,ag,aDp,aDE];refine(vm h n).same ?_;have hlen:=hv.len 512 (by simp[hT]) pX st;simp only[hu,aEq,cN,af,aDJ,aL,aDp,aDE,aDI,bp,hlen];have e1:ai .neq (some .int) true (I ((512:Nat):Int)) (.int .i64 512) st=.ok (.bool false) st:=rfl;obtain⟨v1,i1,mU,v2,i2,ml,s5,a1,⟨pQ,a2,a3,a4⟩,a5,a6,a7⟩:=yz (T:=T) (n:=n) h
 have HA:∃bv off,oJ 512 v st=.ok (.ptr bv off) st/\bv≠bn/\∃l t g,st.m.g bv=some (.cells l t g)/\off+512<=l.length/\(l.drop off).take 512=aj T:=by
  rcases hv with⟨_,h⟩|⟨b,off,len,cap,grow,rfl,h2,h3,h4⟩
  .have:=congrArg List.length h;simp[hT]at this
  .have:len=512:=by simp[hT]at h2;omega
   subst this;rcases h4 with h4|⟨h5,h6,l,t,g,h7,h8,h9⟩
   .cases h4
   .refine⟨b,off,?_,λe=>h5 (by simp[e]),l,t,g,h7,pX,by simpa using h9⟩;have e:oJ 512 (.slice b off 512 cap grow) st=bz (Bool.and (Nat.ble 512 512) (Bool.or (Nat.beq grow 0) (Bool.and (Nat.ble 1 cap) (Nat.ble 512 cap)))) (.ok (.ptr b off) st) .bad:=rfl;rw[e,aO,aDy (by simp only[aDK,aEu,aDW,aDZ];omega)]
 obtain⟨bv,off,b1,b2,l,t,g,b3,b4,b5⟩:=HA;have b6:aK 512 (.ptr bv off) st=.ok (.agg (aj T)) st:=by rw[gM b3 b4,b5]
 have b7:aK 512 (.ptr bv off) (St.set st bn mU)=.ok (.agg (aj T)) (St.set st bn mU):=by rw[gM ((al _ _ _ _ b2).trans b3) b4,b5]
 simp only[e1,af,aJ,aDp,aDE,ag,bA,br,ah,aC,h.main,ar,aDx,aDq,aDo,az,b1,b6,a1,aT,aD,aG,a2,a3,a4,b7];exact⟨⟨adu,adu,⟨adu,adu⟩,adu⟩,adu,adu,a5,a6,a7⟩
end
section
variable {st st':St} {p a:Nat} {lg:CV} {M:bQ} {bd bn bi bc:Nat} {F:List Nat} {D:aP}
def ZY (l:List UInt8):og l<256^l.length:=by
 have key:∀k (l:List UInt8),l.length=k->og l<256^k:=by
  intro k
  induction k with
  |zero=>intro l h;have:=aDP.1 h;subst this;simp[og]
  |succ k ih=>
   intro l h;have gq:l≠[]:=λe=>by subst e;simp at h
   have e:=List.dropLast_concat_getLast gq;have h1:=ih l.dropLast WE;have h2:=(l.getLast gq).toNat_lt;rw[<-e,sG,aFY];omega
 exact key _ l rfl
def tA (l:List UInt8)(h:l.length<=4)(i:Nat):og (l.take i)<=4611686018427387904:=by
 have h1:=ZY (l.take i);have h2:(l.take i).length<=4:=Ws
 have h3:256^(l.take i).length<=256^4:=Nat.pow_le_pow_right pX h2;omega
def cC.DC (h:cC st p a lg M bd bn bi bc)(m':iA):Kp [p] st (St.set st p (.cells [.ptr a 0,lg,I M.first,I M.aE,.map bd,.map bn,I M.kept.root,I M.kept.used,I M.kept.head,I M.kept.free,I m'.root,I m'.used,I m'.head,I m'.free,.map bi,.map bc] 158 false))/\
 cC (St.set st p (.cells [.ptr a 0,lg,I M.first,I M.aE,.map bd,.map bn,I M.kept.root,I M.kept.used,I M.kept.head,I M.kept.free,I m'.root,I m'.used,I m'.head,I m'.free,.map bi,.map bc] 158 false)) p a lg {M with m:=m'} bd bn bi bc:=by
 have nd:=h.nd;simp only[aDG,aDs,aEe,aEW,aEM]at nd;exact⟨(Kp.refl _ st).set _ (.inl rq) (h.lt p rq),aq _ _ _,h.dirty.mono (al _ _ _ _ (aEr nd.1.1)),h.now.mono (al _ _ _ _ (aEr nd.1.2.1)),h.idle.mono (al _ _ _ _ (aEr nd.1.2.2.1)),h.count.mono (al _ _ _ _ (aEr nd.1.2.2.2)),h.nd,h.lt,h.lgs⟩
def bQ.Aw (M:bQ):bQ:={M with m:={M.m with used:=M.m.used+1},now:=gW M.now M.m.used lE,count:=nh M.count M.m.used}
def bQ.xy (M:bQ)(D:aP):bQ:={M with m:={M.m with head:=og ((M.get D M.m.head).take 4),free:=M.m.free-1},idle:=yZ M.idle M.m.head,now:=gW M.now M.m.head lE,count:=nh M.count M.m.head}
def JA:zr 512=aj lE:=nI 512
def JS (s:St):bu (zr 512) [] s=.ok (.agg (zr 512)) s:=by rw[dw,kY]
def MP (h:cC st p a lg M bd bn bi bc)(h1:M.aE<=1000000)(h2:M.m.used<=1000000)(h3:M.m.free<=1000000)(hf:M.cP≠0)(h0:M.m.head=0):
 R 97 [.ptr p 0] st λv st'=>v=.tuple [I M.m.used,I 0]/\Kp [p,bn,bc] st st'/\st'.nx=st.nx/\cC st' p a lg M.Aw bd bn bi bc:=by
 refine bN ?_;rw[w97];simp only[c8,af,ag,aDp,aDE];refine(zp h h1 h2 h3).same ?_;have e1:ai .eql (some .int) true (I M.cP) (.int .i64 0) st=.ok (.bool false) st:=by rw[ay,cz,aDr hf]
 have e2:ai .eql (some .int) true (I M.m.head) (.int .i64 0) st=.ok (.bool true) st:=by rw[h0];rfl
 have e3:ai .add none true (I M.m.used) (.int .i64 1) st=.ok (I ((M.m.used+1:Nat):Int)) st:=CE
 have kq:bo [.ptr a 0,lg,I M.first,I M.aE,.map bd,.map bn,I M.kept.root,I M.kept.used,I M.kept.head,I M.kept.free,I M.m.root,I M.m.used,I M.m.head,I M.m.free,.map bi,.map bc] 11 [I ((M.m.used+1:Nat):Int)]=[.ptr a 0,lg,I M.first,I M.aE,.map bd,.map bn,I M.kept.root,I M.kept.used,I M.kept.head,I M.kept.free,I M.m.root,I ((M.m.used+1:Nat):Int),I M.m.head,I M.m.free,.map bi,.map bc]:=rfl;obtain⟨k2,g2⟩:=h.DC {M.m with used:=M.m.used+1};simp only[e1,af,ag,aDp,aDE,sn,br,ah,aC,h.main,ar,aDx,Nat.reduceAdd,aDq,aDo,az,e2,aDQ,e3,AT,aF,aS,iL,kq];refine⟨⟨rfl,rfl,rq⟩,?_⟩;have n2:(St.set st p (.cells [.ptr a 0,lg,I M.first,I M.aE,.map bd,.map bn,I M.kept.root,I M.kept.used,I M.kept.head,I M.kept.free,I M.m.root,I ((M.m.used+1:Nat):Int),I M.m.head,I M.m.free,.map bi,.map bc] 158 false)).nx=st.nx:=rfl;simp only at k2 g2;generalize St.set st p (.cells [.ptr a 0,lg,I M.first,I M.aE,.map bd,.map bn,I M.kept.root,I M.kept.used,I M.kept.head,I M.kept.free,I M.m.root,I ((M.m.used+1:Nat):Int),I M.m.head,I M.m.free,.map bi,.map bc] 158 false)=s2 at*;obtain⟨v1,i1,mU,v2,i2,ml,s5,a1,⟨pQ,a2,a3,a4⟩,a5,a6,a7⟩:=yz (T:=lE) (n:=M.m.used) g2;rw[<-JA]at a2;have hm:=g2.main;simp only[bA,af,hm,ar,aDq,aDo,az,JS,a1,aT,aD,aG,a2,a3,a4];refine⟨⟨adu,adu,adu⟩,adu,adu,(k2.mono rq).trans a5 rq,pX,a7⟩
end
section
variable {st st':St} {p a:Nat} {lg:CV} {M:bQ} {bd bn bi bc:Nat} {F:List Nat} {D:aP}
def eY (h:Nat):iJ:=be 4 h++List.replicate 508 0
def rZ (h:Nat):(eY h).length=512:=by
 unfold eY;rw[aDw,gZ,aEo]
def LM (h:Nat):bo (zr 512) 0 (aj (be 4 h))=aj (eY h):=by
 unfold bo eY;rw[bF,aFj,aDV,bJ,gZ,nI]
 congr 1
def bQ.drop (M:bQ)(n:Nat):bQ:={M with m:={M.m with head:=n,free:=M.m.free+1},now:=gW M.now n (eY M.m.head),count:=nh M.count n,idle:=nh M.idle n}
def Um (h:cC st p a lg M bd bn bi bc){n:Nat}(hu:M.bS n)(h3:M.m.free<=1000000)(h4:M.m.head<=1000000):
 R 95 [.ptr p 0,I n] st λv st'=>v=I 0/\Kp [p,bn,bi,bc] st st'/\cC st' p a lg (M.drop n) bd bn bi bc:=by
 refine bN ?_;rw[w95];simp only[c8,af,ag,aDp,aDE];refine(vm h n).same ?_;have k2:Kp [] st (St.new st (.cells (zr 512) 173 false)):=(Kp.refl [] st).new _;have g2:(St.new st (.cells (zr 512) 173 false)).m.g st.nx=some (.cells (zr 512) 173 false):=aw _ _;have n2:(St.new st (.cells (zr 512) 173 false)).nx=st.nx+1:=rfl;simp only[hu,aEq,cN,af,aDJ,ag,aDp,aDE,cE,aT,bA];generalize St.new st (.cells (zr 512) 173 false)=s2 at*;have AL:bR 512 1 (.ptr st.nx 0) none (some (.int .i64 4)) s2=.ok (.slice st.nx 0 4 512 0) s2:=rfl;have h2:=h.keep k2 rq;have M6:=h2.main;simp only[AL,af,br,ah,aC,M6,ar,aDx,Nat.reduceAdd,aDq,aDo,az];refine(Io (n:=M.m.head) (len:=4) (off:=0) (cap:=512) g2 pX (by rw[pU];decide) pX pX).mono ?_;rintro _ s3 ⟨k3,n3,g3⟩;rw[LM]at g3;have Gs:(aj (eY M.m.head)).length=512:=by simp[rZ]
 have Gj:∀b∈[p,bd,bn,bi,bc],b∉[st.nx]:=λb hb=>by have:=h.lt b hb;simp;omega
 have h3':=h2.keep k3 Gj;have hm3:=h3'.main;obtain⟨v1,i1,mU,v2,i2,ml,s7,a1,⟨pQ,a2,a3,a4⟩,a5,a6,a7⟩:=yz (T:=eY M.m.head) (n:=n) h3';have b6:=aR g3 Gs;have Ey:st.nx≠bn:=λe=>by have:=h.lt bn rq;omega
 have b7:aK 512 (.ptr st.nx 0) (St.set s3 bn mU)=.ok (.agg (aj (eY M.m.head))) (St.set s3 bn mU):=aR ((al _ _ _ _ Ey).trans g3) Gs;have Vw:=a7.main;have e3:∀s,ai .add none true (I M.m.free) (.int .i64 1) s=.ok (I ((M.m.free+1:Nat):Int)) s:=λs=>CE
 obtain⟨k9,g9⟩:=a7.DC {M.m with head:=n,free:=M.m.free+1};have ri:bo [.ptr a 0,lg,I M.first,I M.aE,.map bd,.map bn,I M.kept.root,I M.kept.used,I M.kept.head,I M.kept.free,I M.m.root,I M.m.used,I M.m.head,I M.m.free,.map bi,.map bc] 12 [I n]=[.ptr a 0,lg,I M.first,I M.aE,.map bd,.map bn,I M.kept.root,I M.kept.used,I M.kept.head,I M.kept.free,I M.m.root,I M.m.used,I n,I M.m.free,.map bi,.map bc]:=rfl;have ko:bo [.ptr a 0,lg,I M.first,I M.aE,.map bd,.map bn,I M.kept.root,I M.kept.used,I M.kept.head,I M.kept.free,I M.m.root,I M.m.used,I n,I M.m.free,.map bi,.map bc] 13 [I ((M.m.free+1:Nat):Int)]=[.ptr a 0,lg,I M.first,I M.aE,.map bd,.map bn,I M.kept.root,I M.kept.used,I M.kept.head,I M.kept.free,I M.m.root,I M.m.used,I n,I ((M.m.free+1:Nat):Int),.map bi,.map bc]:=rfl;obtain⟨blk,u1,u2,u3⟩:=IsMap.update (.inl g9.idle) n (.bool true);simp only at k9 g9 u1 u2 u3;simp only[br,ah,af,aC,hm3,ar,aDx,Nat.reduceAdd,aDq,aDo,az,b6,b7,a1,aT,aD,aG,a2,a3,a4,sn,Vw,e3,AT,aF,aS,iL,ri,aq,ko,set_set,eW,u1];have nd:=h.nd;simp only[aDG,aDs,aEe,aEW,aEM]at nd;obtain⟨⟨m1,m2,m3,m4⟩,⟨m5,m6,m7⟩,⟨m8,m9⟩,m10,_⟩:=nd;refine⟨⟨adu,adu⟩,adu,⟨adu,adu,⟨adu,adu⟩,adu⟩,adu,⟨rfl,rfl,rq⟩,⟨rfl,rfl,rq⟩,adu,?_,?_⟩
 .have q1:Kp [p,bn,bi,bc] st s3:=(k2.trans k3 rq).mono rq;have q2:=q1.trans a5 rq;refine(q2.trans k9 rq).set _ (.inl rq) ?_;have:=g9.lt bi rq;exact this
 .have u4:=u3 g9.idle;rw[yW]at u4;exact⟨(al _ _ _ blk m3).trans g9.main,g9.dirty.mono (al _ _ _ blk m6),g9.now.mono (al _ _ _ blk m8),u4,g9.count.mono (al _ _ _ blk (aEr m10)),h.nd,g9.lt,h.lgs⟩
end
section
variable {st st':St} {p a:Nat} {lg:CV} {M:bQ} {bd bn bi bc:Nat} {F:List Nat} {D:aP}
def MO (h:cC st p a lg M bd bn bi bc)(hd:cG st a F D)(nZ:D.dead=false)(h1:M.aE<=1000000)(h2:M.m.used<=1000000)(h3:M.m.free<=1000000)(hf:M.cP≠0)(hf0:0<M.m.free)(h0:M.m.head≠0)
 (hn:M.first+M.m.head<D.ao.length) (hs:(M.get D M.m.head).length=512):
 R 97 [.ptr p 0] st λv st'=>v=.tuple [I M.m.head,I 0]/\Kp [p,bn,bi,bc] st st'/\cC st' p a lg (M.xy D) bd bn bi bc:=by
 refine bN ?_;rw[w97];simp only[c8,af,ag,aDp,aDE];refine(zp h h1 h2 h3).same ?_;have e1:ai .eql (some .int) true (I M.cP) (.int .i64 0) st=.ok (.bool false) st:=by rw[ay,cz,aDr hf]
 have e2:ai .eql (some .int) true (I M.m.head) (.int .i64 0) st=.ok (.bool false) st:=R6
 simp only[e1,af,ag,aDp,aDE,sn,br,ah,aC,h.main,ar,aDx,Nat.reduceAdd,aDq,aDo,az,e2];refine(yw h hd nZ hn hs).mono ?_;rintro _ s7 ⟨rfl,k7⟩;have AO:(aj (M.get D M.m.head)).length=512:=aas
 simp only[aD,aG,af];refine lJ AO (bC _) ?_;have k9:=k7.page (aj (M.get D M.m.head));have g9:(St.set (St.new s7 (.cells (zr 512) 173 false)) s7.nx (.cells (aj (M.get D M.m.head)) 173 false)).m.g s7.nx=some (.cells (aj (M.get D M.m.head)) 173 false):=aq _ _ _;have n9:(St.set (St.new s7 (.cells (zr 512) 173 false)) s7.nx (.cells (aj (M.get D M.m.head)) 173 false)).nx=s7.nx+1:=rfl;generalize St.set (St.new s7 (.cells (zr 512) 173 false)) s7.nx (.cells (aj (M.get D M.m.head)) 173 false)=s9 at*;have h9:=h.keep k9 rq;have hm9:=h9.main;have AL:bR 512 1 (.ptr s7.nx 0) none (some (.int .i64 4)) s9=.ok (.slice s7.nx 0 4 512 0) s9:=rfl;have zP:aj ((M.get D M.m.head).take 4)=(aj (M.get D M.m.head)).take 4:=aaF
 have lu:Sl s9 [] (.slice s7.nx 0 4 512 0) 1 (aj ((M.get D M.m.head).take 4)):=.inr ⟨s7.nx,0,4,512,0,rfl,by rw[zP,aDF];omega,⟨pX,.inl rfl⟩,.inr ⟨rq,pX,_,_,_,g9,pX,by rw[aDX,zP]⟩⟩;simp only[ay,fq,aEq,aDJ,af,ag,aDp,aDE,bA,AL];have hl4:((M.get D M.m.head).take 4).length<=4:=Ws
 refine(sY lu pX (tA _ hl4)).same ?_;have e3:∀s,jK .sub .i64 (M.m.free:Int) .i64 1 s=.ok (I ((M.m.free-1:Nat):Int)) s:=λs=>by rw[dX,bB pX];congr 2;omega
 obtain⟨rm,tk⟩:=h9.DC {M.m with head:=og ((M.get D M.m.head).take 4),free:=M.m.free-1};have ri:bo [.ptr a 0,lg,I M.first,I M.aE,.map bd,.map bn,I M.kept.root,I M.kept.used,I M.kept.head,I M.kept.free,I M.m.root,I M.m.used,I M.m.head,I M.m.free,.map bi,.map bc] 12 [I (og ((M.get D M.m.head).take 4))]=[.ptr a 0,lg,I M.first,I M.aE,.map bd,.map bn,I M.kept.root,I M.kept.used,I M.kept.head,I M.kept.free,I M.m.root,I M.m.used,I (og ((M.get D M.m.head).take 4)),I M.m.free,.map bi,.map bc]:=rfl;have ko:bo [.ptr a 0,lg,I M.first,I M.aE,.map bd,.map bn,I M.kept.root,I M.kept.used,I M.kept.head,I M.kept.free,I M.m.root,I M.m.used,I (og ((M.get D M.m.head).take 4)),I M.m.free,.map bi,.map bc] 13 [I ((M.m.free-1:Nat):Int)]=[.ptr a 0,lg,I M.first,I M.aE,.map bd,.map bn,I M.kept.root,I M.kept.used,I M.kept.head,I M.kept.free,I M.m.root,I M.m.used,I (og ((M.get D M.m.head).take 4)),I ((M.m.free-1:Nat):Int),.map bi,.map bc]:=rfl;obtain⟨ey,u1,u2,u3⟩:=tk.idle.delete (M.m.head:Int);simp only at rm tk u1 u2 u3;have nd:=h.nd;simp only[aDG,aDs,aEe,aEW,aEM]at nd;obtain⟨⟨m1,m2,m3,m4⟩,⟨m5,m6,m7⟩,⟨m8,m9⟩,m10,_⟩:=nd;have hb9:=tk.lt bi rq;rw[Oe]at u3;generalize apb:St.set s9 p (.cells [.ptr a 0,lg,I M.first,I M.aE,.map bd,.map bn,I M.kept.root,I M.kept.used,I M.kept.head,I M.kept.free,I M.m.root,I M.m.used,I (og ((M.get D M.m.head).take 4)),I ((M.m.free-1:Nat):Int),.map bi,.map bc] 158 false)=bY at*
 have rl:Kp [bi] bY ey:=by
  rcases u2 with rfl|⟨blk,rfl⟩
  .exact Kp.refl _ _
  .exact(Kp.refl _ bY).set _ (.inl rq) hb9
 have kk:∀q∈[p,bd,bn,bi,bc],q≠bi->ey.m.g q=bY.m.g q:=λq hq gq=>rl.keep q (tk.lt q hq) aaO
 have h13:cC ey p a lg {M with m:={M.m with head:=og ((M.get D M.m.head).take 4),free:=M.m.free-1},idle:=yZ M.idle M.m.head} bd bn bi bc:=
  ⟨(kk p rq m3).trans tk.main,tk.dirty.mono (kk bd rq m6),tk.now.mono (kk bn rq m8),u3,tk.count.mono (kk bc rq (aEr m10)),h.nd,λb hb=>aDM (tk.lt b hb) rl.nx,h.lgs⟩
 obtain⟨v1,i1,mU,v2,i2,ml,lp,a1,⟨pQ,a2,a3,a4⟩,a5,a6,a7⟩:=yz (T:=lE) (n:=M.m.head) h13;rw[<-JA]at a2;have anm:=h13.main;have TD:=tk.main;simp only[br,ah,af,aC,hm9,ar,aDx,Nat.reduceAdd,aDq,aDo,az,ay,e3,aF,aS,iL,ri,aq,ko,set_set,apb,eW,u1,aT,anm,JS,a1,aD,aG,a2,a3,a4];have kA:Kp [p,bn,bi,bc] st bY:=(k9.mono rq).trans rm rq;have kB:=kA.trans rl rq;exact⟨⟨rfl,rfl,rq⟩,⟨rfl,rfl,rq⟩,⟨⟨adu,adu⟩,adu⟩,adu,⟨adu,adu,adu⟩,adu,adu,kB.trans a5 rq,a7⟩
end
section
variable {st st':St} {p a:Nat} {lg:CV} {M:bQ} {bd bn bi bc:Nat} {F:List Nat} {D:aP}
def pC (hd:cG st a F D):R 70 [.ptr a 0] st λv st'=>v=I ((D.ao.length/4:Nat):Int)/\st'=st:=by
 refine bN ?_;rw[w70];refine(wY hd).same ?_;have hsz:=(show D.ao.length<=65536 from by obtain⟨_,_,_,_,_,_,_,h⟩:=hd;exact h.size)
 have e:ai .quo none true (I D.ao.length) (.int .i64 4) st=.ok (I ((D.ao.length/4:Nat):Int)) st:=by
  have e0:ai .quo none true (I D.ao.length) (.int .i64 4) st=.ok (I (IntKind.i64.wrap (Int.tdiv D.ao.length 4))) st:=rfl;have e1:Int.tdiv (D.ao.length:Int) 4=((D.ao.length/4:Nat):Int):=rfl;rw[e0,e1,bB pX]
 rw[e,af];exact⟨rfl,rfl⟩
def cU (base:Nat):iJ:=[98,117,116,116,101,114,121,49]++be 8 base++List.replicate 496 0
def qB (base:Nat):(cU base).length=512:=by
 unfold cU;simp only[aDw,gZ,aEo,aDT,aEO]
def aP.head (D:aP)(base:Nat):Int×aP:=if (D.write 0 (cU base)).1=0 then (D.write 0 (cU base)).2.flush else D.write 0 (cU base)
def Kx (hf:eM st)(hd:cG st a F D)(hw:D.waits.length<90000000){base:Nat}(hb:base<9223372036854775808):R 89 [.ptr a 0,I base] st λv st'=>v=I (D.head base).1/\pk a F st (D.head base).2 st':=by
 refine bN ?_;rw[w89];have k1:Kp [] st (St.new st (.cells (zr 512) 173 false)):=(Kp.refl [] st).new _;have g1:(St.new st (.cells (zr 512) 173 false)).m.g st.nx=some (.cells (zr 512) 173 false):=aw _ _;have n1:(St.new st (.cells (zr 512) 173 false)).nx=st.nx+1:=rfl;rw[cE,aT];generalize St.new st (.cells (zr 512) 173 false)=s1 at*;have AL:∀s,bR 512 1 (.ptr st.nx 0) none none s=.ok (.slice st.nx 0 512 512 0) s:=λs=>rfl
 have Zb:gw true 1 (.slice st.nx 0 512 512 0) (.str [98,117,116,116,101,114,121,49]) s1=.ok (I 8) (St.set s1 st.nx (.cells (bo (zr 512) 0 (aj [98,117,116,116,101,114,121,49])) 173 false)):=by
  have e:gw true 1 (.slice st.nx 0 512 512 0) (.str [98,117,116,116,101,114,121,49]) s1=(match s1.m.g st.nx with
   |some (.cells s ty g)=>Option.rec (Option.rec .bad (λs'=>yj .i64 ⟨s1.m.put st.nx (some (.cells s' ty g)),s1.nx⟩ 8) (Bj s 0 (aj [98,117,116,116,101,114,121,49]) (0+512*0))) (λs'=>yj .i64 ⟨s1.m.put st.nx (some (.cells s' ty g)),s1.nx⟩ 8) (dU s 0 (aj [98,117,116,116,101,114,121,49]))
   |_=>.bad):=rfl
  rw[e,g1];have e3:dU (zr 512) 0 (aj [98,117,116,116,101,114,121,49])=some (bo (zr 512) 0 (aj [98,117,116,116,101,114,121,49])):=by unfold dU;rw[aDy (by rw[pU];decide)];rfl
  dsimp only;rw[e3];rfl
 have amT:bo (zr 512) 0 (aj [98,117,116,116,101,114,121,49])=aj [98,117,116,116,101,114,121,49]++aj (List.replicate 504 0):=by
  have e:zr 512=aj (List.replicate 8 0)++aj (List.replicate 504 0):=by rw[nI,<-bF,List.replicate_append_replicate]
  rw[e];rfl
 rw[amT]at Zb;have hs8:∀s,bR 512 1 (.ptr st.nx 0) (some (.int .i64 8)) (some (.int .i64 16)) s=.ok (.slice st.nx 8 8 504 0) s:=λs=>rfl;simp only[AL,af,Zb,aT,hs8];have k2:Kp [] st (St.set s1 st.nx (.cells (aj [98,117,116,116,101,114,121,49]++aj (List.replicate 504 0)) 173 false)):=k1.set _ (.inr (aDt _)) pX;have g2:(St.set s1 st.nx (.cells (aj [98,117,116,116,101,114,121,49]++aj (List.replicate 504 0)) 173 false)).m.g st.nx=some (.cells (aj [98,117,116,116,101,114,121,49]++aj (List.replicate 504 0)) 173 false):=aq _ _ _;have n2:(St.set s1 st.nx (.cells (aj [98,117,116,116,101,114,121,49]++aj (List.replicate 504 0)) 173 false)).nx=s1.nx:=rfl;generalize St.set s1 st.nx (.cells (aj [98,117,116,116,101,114,121,49]++aj (List.replicate 504 0)) 173 false)=s2 at*;refine(Io (n:=base) (len:=8) (off:=8) (cap:=504) g2 pX rq pX hb).mono ?_;rintro _ s3 ⟨k3,n3,g3⟩
 have ri:bo (aj [98,117,116,116,101,114,121,49]++aj (List.replicate 504 0)) 8 (aj (be 8 base))=aj (cU base):=by
  have e:=pG (aj [98,117,116,116,101,114,121,49]) (aj (List.replicate 504 0)) (aj (be 8 base));have e2:(aj [98,117,116,116,101,114,121,49]).length=8:=rfl
  have e3:(aj (List.replicate 504 0)).drop (aj (be 8 base)).length=aj (List.replicate 496 0):=by
   unfold aj;rw[<-aEN,aFA,aEt,gZ]
  rw[e2,e3]at e;rw[e];unfold cU;rw[bF,bF,aDY]
 rw[ri]at g3;have hl:=qB base;have M7:(aj (cU base)).length=512:=acT
 have k03:=k2.trans k3 rq;have lu:Sl s3 F (.slice st.nx 0 512 512 0) 1 (aj (cU base)):=.inr ⟨st.nx,0,512,512,0,rfl,pX,⟨aDt _,.inl rfl⟩,.inr ⟨λh=>by have:=hd.lt _ h;omega,pX,_,_,_,g3,pX,Wu⟩⟩;refine(vi (i:=0) (hd.keep k03 rq) (k03.fresh hf) pX lu hl).mono ?_;rintro _ s4 ⟨rfl,k4,F',d4,nz⟩;have Mm:∀b∈F',b∈F\/st.nx<=b:=λb hb=>(nz b hb).imp id λh=>by have:=k03.nx;omega
 unfold aP.head
 by_cases hz:(D.write 0 (cU base)).1=0
 .rw[aDy hz];obtain⟨z1,z2,z3⟩:=yM hz;simp only[hz,ay,fq,aEq,aDJ,af,ag,aDp,aDE];refine(wc d4 (by rw[z2];simp;omega)).mono ?_;rintro _ s5 ⟨rfl,k5,F2,d5,vd⟩;exact⟨rfl,((k03.mono (λq hq=>by simp at hq)).trans k4 (adt)).trans k5 Mm,F2,d5,λb hb=>(vd b hb).elim (Mm b) λh=>.inr (by have:=k03.nx;have:=k4.nx;omega)⟩
 .rw[aDv hz];simp only[ay,fq,hz,aEY,aDI,af,ag,aDQ];exact⟨adu,(k03.mono (λq hq=>by simp at hq)).trans k4 (adt),F',d4,Mm⟩
end
