import Derived.Test.YtomffjeofpafnaaGreatDoorLawB
import Derived.Test.YtomffjeofpafnaaGreatDoorWk
namespace Lim
open Go
noncomputable section
set_option linter.defProp false
set_option maxRecDepth 100000
section
variable {L:List aW}{p q:aW->Bool}{τ:Nat}{π:PI}{Lk:List aW}{T N fr:Nat}
def Cw (L:List aW)(a:bY)(w:List UInt8):iE (nt L a w) a=some w:=by
 unfold nt;exact Ig λx b=>by simpa using (aIR.1 b).2
def yZ (h:∀x,q x=true->p x=true):(L.filter p).find? q=L.find? q:=by
 induction L with
 |nil=>rfl
 |cons x r a=>
  rw[aJa];cases hp:p x with
  |true=>
   rw[aHP rfl,List.find?_cons,List.find?_cons,a]
  |false=>
   rw[aHM xI,a,List.find?_cons];cases b:q x with
   |true=>rw[h x b]at hp;cases hp
   |false=>rfl
def uf (h:∀x,q x=true->p x=false):(L.filter p).find? q=none:=by
 rw[List.find?_eq_none];intro x a b;have:=(aIR.1 a).2;rw[h x b]at this;cases this
def tf (L:List aW)(a b:bY)(w:List UInt8)(h:a≠b):iE (nt L a w) b=iE L b:=by
 unfold iE nt
 congr 1
 rw[aKJ,List.find?_cons,aHL h];dsimp only
 by_cases c:dO b a
 .rw[yZ (p:=λx=>decide (dO x.1 a)) λx hx=>by
   have:x.1=b:=Yx
   rw[this];simpa using c]
  rw[uf (p:=λx=>decide (dO a x.1)) λx hx=>by
   have:x.1=b:=Yx
   rw[this]
   simpa using ju c]
  cases L.find? _<;>rfl
 .have d:dO a b:=by
   have e:lj a b:=c;rcases pR.1 e with h|h
   .exact h
   .exact absurd h (by assumption)
  rw[uf (p:=λx=>decide (dO x.1 a)) λx hx=>by
   have:x.1=b:=Yx
   rw[this]
   simpa using c]
  rw[yZ (p:=λx=>decide (dO a x.1)) λx hx=>by
   have:x.1=b:=Yx
   rw[this];simpa using d]
  rfl
def gD.Fs {st:St}(h:gD τ π st L Lk T N fr):fr<=N:=by
 obtain⟨⟨G,e,i,a,d,f,g,rfl⟩,k,j⟩:=h;obtain⟨⟨base,last,P,Ls,r,b,_⟩,_⟩:=d;have m:π.D.aq.length-1-π.D.aq.length/4=e.aE:=b.rep.aE;have h2:=YQ G.used G.fr a.ok.nd λx c=>(a.ok.fr x c).2;have l:=a.ok.ik;unfold GM.cD;omega
def aej {st:St}(h:gD τ π st L Lk T N fr):R 18 [.ptr π.a 0] st λv st'=>v=I N/\st'=st:=by
 obtain⟨⟨G,m,b,j,g,e,f,rfl⟩,i,c⟩:=h;obtain⟨M,l,k,d,_⟩:=b.pg;rw[<-c];exact vD d
section
variable {st st':St}
def Wx (h:gD τ π st L Lk T N fr){a:bY}(e:a.length<=48):R 13 [.ptr τ 0,.str a] st λx st'=>Kp [] st st'/\x=.tuple [.str ((iE L a).getD []),.bool (iE L a).isSome,I 0]:=by
 obtain⟨⟨G,f,c,d,_⟩,_⟩:=h;refine(abh c d a).mono ?_;rintro x s ⟨k,b⟩;rw[aHM uM]at b;exact⟨k,b⟩
def TZ (h:gD τ π st L Lk T N fr)(a b:bY):R 14 [.ptr τ 0,.str a,.str b] st λy st'=>∃x,y=.tuple [x,I 0]/\Kp [] st st'/\Sl st' [] x 2 (jx (L.filter (Br a b))):=by
 obtain⟨⟨G,g,d,f,_⟩,_⟩:=h;refine(PX d f a b).mono ?_;rintro y s ⟨x,rfl,c⟩;obtain⟨k,e⟩:=c.eH (X:=[]) wb;exact⟨x,rfl,k,e⟩
def Sl.aeK {s:St}{v:CV}{M:List aW}(c:Sl s [] v 2 (jx M)){i:Nat}(hi:i<M.length):∃b p,(∀s',cV 2 v (I i) s'=.ok (.ptr b p) s')/\aJ 2 (.ptr b p) s=.ok (.agg (gh M[i])) s:=by
 obtain⟨b,p,l,t,g,k,j,w,u,d⟩:=c.cellAt (L:=M.map gh) uM (Ev _) (i:=i) Yy;have a:=d 0 (.str M[i].1) (by simp[gh]);have f:=d 1 (.str M[i].2) (by simp[gh]);rw[aIv]at a;refine⟨b,p,k,?_⟩;obtain⟨r,o⟩:=aHW.1 a;obtain⟨n,m⟩:=aHW.1 f
 have e:gY l p 2=some (gh M[i]):=by
  unfold gY;rw[aHP uM,aIe r,aIe n,o,m]
  rfl
 simp only[aJ,j,e]
end
end
abbrev Nm:=Int×bY
structure jI where
 sp:Int
 key:bY
 val:List UInt8
 gone:Bool
def jI.nm (c:jI):Nm:=(c.sp,c.key)
def xC (p:Nm):Prop:=(0<=p.1/\p.1<256)/\p.2.length<=47
def jI.ok (c:jI):Prop:=xC c.nm/\c.val.length<=8192/\(c.gone=true->c.val=[])
instance (p:Nm):Decidable (xC p):=by unfold xC;infer_instance
instance (c:jI):Decidable c.ok:=by unfold jI.ok;infer_instance
def je (p:Nm):bY:=UInt8.ofNat p.1.toNat::p.2
def Fx (L:List aW)(c:jI):List aW:=if c.gone=true then pz L (je c.nm)else nt L (je c.nm) c.val
def jW (L:List aW)(cs:List jI):List aW:=cs.foldl Fx L
def Cx (L:List aW)(key:bY):iE (pz L key) key=none:=by
 unfold iE pz;rw[aKJ,uf (p:=λx=>decide (dO x.1 key)) λx hx=>?_,uf (p:=λx=>decide (dO key x.1)) λx hx=>?_]
 .rfl
 all_goals
  have:x.1=key:=Yx
  rw[this]
  simpa using jf key
def Bd (L:List aW)(a b:bY)(h:a≠b):iE (pz L a) b=iE L b:=by
 have h1:=tf L a b [] h;rw[<-h1];unfold iE pz nt;rw[aKJ,aKJ,List.find?_cons,aHL h]
def VQ (L:List aW)(c:jI)(key:bY):iE (Fx L c) key=if key=je c.nm then (if c.gone=true then none else some c.val)else iE L key:=by
 unfold Fx
 by_cases h:key=je c.nm
 .rw[aHP h,h]
  split
  .exact Cx _ _
  .exact Cw _ _ _
 .rw[aHM h]
  split
  .exact Bd _ _ _ (aIG h)
  .exact tf _ _ _ _ (aIG h)
def Small (L:List aW):Prop:=∀p∈L,p.2.length<=8192
def Small.do {L:List aW}(h:Small L){c:jI}(b:c.ok):Small (Fx L c):=by
 intro p a;unfold Fx pz nt at a
 split at a
 .rcases aHT.1 a with a|a<;>exact h p (aIR.1 a).1
 .rcases aHT.1 a with a|a
  .exact h p (aIR.1 a).1
  .rcases aHJ.1 a with rfl|a
   .exact b.2.1
   .exact h p (aIR.1 a).1
def Small.get {L:List aW}(h:Small L)(k:bY):((iE L k).getD []).length<=8192:=by
 unfold iE;cases hf:L.find? (λx=>decide (x.1=k))with
 |none=>simp
 |some p=>exact h p (List.mem_of_find?_eq_some hf)
def mG (L:List aW)(cs:List jI)(i:Nat)(hi:i<cs.length):jW L (cs.take (i+1))=Fx (jW L (cs.take i)) cs[i]:=by
 unfold jW;rw[aIa hi,aKr];rfl
abbrev xD:=List (Nm×Nat)
def ry (m:xD)(p:Nm):Option Nat:=match m with|[]=>none|(q,n)::r=>if p=q then some n else ry r p
def vu (m:xD)(p:Nm)(x:Nat):xD:=match m with|[]=>[(p,x)]|(q,n)::r=>if p=q then (p,x)::r else (q,n)::vu r p x
def Hf (m:xD)(p q:Nm)(x:Nat):ry (vu m p x) q=if q=p then some x else ry m q:=by
 induction m with
 |nil=>by_cases h:q=p<;>simp[vu,ry,h]
 |cons a r c=>
  obtain⟨a,n⟩:=a;simp only[vu]
  by_cases h:p=a
  .subst h;rw[aHP rfl];simp only[ry];by_cases b:q=p<;>simp[b]
  .rw[aHM h];simp only[ry,c]
   by_cases b:q=a
   .subst b;rw[aHP rfl,aHM (aIG h),aHP rfl]
   .rw[aHM b,aHM b]
def sF (L:List aW)(m:xD)(p:Nm):Nat:=(ry m p).getD ((iE L (je p)).getD []).length
def kz (L:List aW)(m:xD):List jI->Nat
 |[]=>0
 |c::r=>(24+2*bN c.val.length+2*bN (sF L m c.nm))+kz L (vu m c.nm c.val.length) r
def lD {n:Nat}(h:n<=8192):bN n<=18:=by unfold bN;split<;>omega
abbrev UL:kK:=.struct (.cons 0 1 false .int (.cons 1 1 false .str .nil))
def uB (p:Nm):CV:=.agg [I p.1,.str p.2]
def qi (c:jI):List CV:=[I c.sp,.str c.key,.str c.val,.bool c.gone]
def l4 (cs:List jI):List CV:=(cs.map qi).flatten
def Yg (cs:List jI):∀x∈cs.map qi,x.length=4:=λx a=>by obtain⟨c,_,rfl⟩:=aIk.1 a;rfl
def pe (cs:List jI):(l4 cs).length=cs.length*4:=by
 have:=fg (Yg cs)
 rwa [aIx]at this
def SA (p q:Nm):mJ UL (uB p) (uB q)=some (decide (p=q)):=by
 obtain⟨a,k⟩:=p;obtain⟨b,l⟩:=q
 have e:decide ((a,k)=(b,l))=(decide (a=b)&&k==l):=by
  by_cases d:a=b<;>by_cases c:k=l<;>simp[d,c]
 rw[e]
 by_cases d:a=b<;>by_cases c:k=l<;>simp[uB,mJ,Bq,iY,andThen,d,c,bE]
def Ht (p:Nm):sn UL (uB p)=true:=by
 unfold sn;rw[SA];simp[Zc]
def IV (st:St)(b:Nat)(m:xD):Prop:=∃a c,st.m.g b=some (.map a c)/\a.map (λe=>(e.1,e.2.1))=List.map (λp:Nm×Nat=>(uB p.1,I p.2)) m
def IB (p:Nm)(x:Nat):∀(m:xD) (c:List eK) (j:Nat),c.map (λe=>(e.1,e.2.1))=List.map (λp:Nm×Nat=>(uB p.1,I p.2)) m->
 (ry m p=none/\jX UL (uB p) c j=some none/\vu m p x=m++[(p,x)])\/∃(i n f:Nat),ry m p=some n/\jX UL (uB p) c j=some (some (j+i,I n))/\c[i]?=some (uB p,I n,f)/\vu m p x=List.set m i (p,x):=by
 intro m
 induction m with
 |nil=>intro c j h;cases c with
  |nil=>exact .inl ⟨rfl,rfl,rfl⟩
  |cons e c=>simp at h
 |cons a r q=>
  intro c j h;obtain⟨a,n⟩:=a;cases c with
  |nil=>simp at h
  |cons e c=>
   obtain⟨z,y,f⟩:=e;simp only[aIt,aJl,aJD]at h;obtain⟨⟨rfl,rfl⟩,u⟩:=h;have v:jX UL (uB p) ((uB a,I n,f)::c) j=Option.rec none (λb=>bE b (some (some (j,I n))) (jX UL (uB p) c (Nat.succ j))) (mJ UL (uB p) (uB a)):=rfl;rw[v,SA];simp only[aO,aIP,ry,vu]
   by_cases d:p=a
   .subst d;right;refine⟨0,n,f,aHP rfl,aHP rfl,rfl,aHP rfl⟩
   .rw[aHM d,aHM d,aHM d];rcases q c (j+1) u with⟨l,k,g⟩|⟨i,o,w,l,k,g,s⟩
    .exact .inl ⟨l,k,by rw[g];rfl⟩
    .exact .inr ⟨i+1,o,w,l,by rw[Nat.succ_eq_add_one,k];congr 3;omega,g,by rw[s];rfl⟩
def IV.lookup {st:St}{b:Nat}{m:xD}(h:IV st b m)(p:Nm):gj UL (.int .i64 0) true (.map b) (uB p) st=.ok (.tuple [I (((ry m p).getD 0:Nat):Int),.bool (ry m p).isSome]) st:=by
 obtain⟨es,c,e,f⟩:=h;unfold gj;have j:oT (.map b) st=none:=by simp[oT,e]
 have g:vQ (.map b) st=some es:=by simp[vQ,e]
 rw[Ht,aO,aHP rfl,j,g];rcases IB p 0 m es 0 f with⟨d,a,_⟩|⟨i,n,k,d,a,_⟩
 .simp only[d,a];simp
 .simp only[d,a];simp
def IV.update {st:St}{b:Nat}{m:xD}(h:IV st b m)(p:Nm)(x:Nat):∃blk,dG UL (.map b) (uB p) (I x) st=.ok .undef (St.set st b blk)/\IV (St.set st b blk) b (vu m p x):=by
 obtain⟨a,c,l,f⟩:=h;unfold dG;rw[Ht,aO,aHP rfl];simp only[l];rcases IB p x m a 0 f with⟨k,e,d⟩|⟨i,n,g,k,e,j,d⟩
 .simp only[e,dH];refine⟨.map (a++[(uB p,I x,c)]) (c+1),rfl,a++[(uB p,I x,c)],c+1,an _ _ _,?_⟩;rw[d,aIQ,aIQ,f];rfl
 .simp only[e,aHN,yv,j,tW];rw[show uP (uB p) (uB p)=true by simp[uP,Ah,Ag,uB],aO,aHP rfl];refine⟨.map (a.set i (uB p,I x,g)) c,rfl,a.set i (uB p,I x,g),c,an _ _ _,?_⟩;rw[d,List.map_set,List.map_set,f]
section
variable {st st':St}
def LM (p:Nm):R 81 [uB p] st λv s=>v=.bool (decide (xC p))/\Kp [] st s:=by
 refine bK ?_;rw[w81,bS];refine⟨rfl,?_⟩;unfold uB;rw[aT];have a:Kp [] st (St.new st (.cells [I p.1,.str p.2] 166 false)):=(Kp.refl [] st).new _;have b:(St.new st (.cells [I p.1,.str p.2] 166 false)).m.g st.nx=some (.cells [I p.1,.str p.2] 166 false):=au _ _;generalize St.new st (.cells [I p.1,.str p.2] 166 false)=s1 at*;have c:aj .leq none true (I p.2.length) (.int .i64 47) s1=.ok (.bool (decide (p.2.length<=47))) s1:=Wv
 unfold xC;simp only[fl,iy,ah,af,az,b,ar,aHN,aHG,aw,av,qE,aG,aIj]
 by_cases h1:0<=p.1
 .simp only[aHQ h1,ba,af,az,b,ar,aHG,aw,av,c8,aF,aIj,aG]
  by_cases h2:p.1<256
  .simp only[aHQ h2,ba,af,az,b,ar,aHI,aHG,aw,gQ,c,aIj];exact⟨by simp[h1,h2],a⟩
  .simp only[aHL h2,bU,af,aHH,aHV];exact⟨adb,a⟩
 .simp only[aHL h1,bU,af,aF,aHH,aHV,aG];exact⟨ael,a⟩
def xT {p:Nm}(h:xC p):R 82 [uB p] st λv s=>v=.str (je p)/\Kp [] st s:=by
 refine bK ?_;rw[w82,bS];refine⟨rfl,?_⟩;unfold uB;rw[aT];have d:Kp [] st (St.new st (.cells [I p.1,.str p.2] 166 false)):=(Kp.refl [] st).new _;have b:(St.new st (.cells [I p.1,.str p.2] 166 false)).m.g st.nx=some (.cells [I p.1,.str p.2] 166 false):=au _ _;generalize o:St.new st (.cells [I p.1,.str p.2] 166 false)=s1 at*;have q:s1.nx=st.nx+1:=by rw[<-o];rfl
 obtain⟨⟨i,u⟩,r⟩:=h
 have f:dw (.toInt .u8) (I p.1) s1=.ok (bP (UInt8.ofNat p.1.toNat)) s1:=by
  have:=MX p.1.toNat .i64 s1;rw[Int.toNat_of_nonneg i,aJC uM]at this;exact this
 simp only[fl,ah,af,az,b,ar,aHN,aHG,aw,f];rw[vS (k:=1) rfl rfl rfl,aP];have a:Kp [] s1 (St.new s1 (.cells [bP (UInt8.ofNat p.1.toNat)] 5 false)):=(Kp.refl [] s1).new _;have l:(St.new s1 (.cells [bP (UInt8.ofNat p.1.toNat)] 5 false)).m.g s1.nx=some (.cells [bP (UInt8.ofNat p.1.toNat)] 5 false):=au _ _;have j:(St.new s1 (.cells [bP (UInt8.ofNat p.1.toNat)] 5 false)).m.g st.nx=_:=(a.keep st.nx uM wb).trans b;have c:Sl (St.new s1 (.cells [bP (UInt8.ofNat p.1.toNat)] 5 false)) [] (.slice s1.nx 0 1 1 0) 1 (ai [UInt8.ofNat p.1.toNat]):=.inr ⟨s1.nx,0,1,1,0,rfl,rfl,⟨aHK _,.inl rfl⟩,.inr ⟨wb,wb,_,_,_,l,wb,rfl⟩⟩;have e:CV.cK (bP (UInt8.ofNat p.1.toNat))=[bP (UInt8.ofNat p.1.toNat)]:=rfl;rw[e];generalize St.new s1 (.cells [bP (UInt8.ofNat p.1.toNat)] 5 false)=s2 at*;rw[c.str,af,j,ar];simp only[aHI,aHG,aw]
 have n:aj .add none false (.str [UInt8.ofNat p.1.toNat]) (.str p.2) s2=.ok (.str (je p)) s2:=by
  rw[ep];unfold sv;rw[aHP zS];rfl
 rw[n,af];exact⟨rfl,d.trans a wb⟩
def LQ {n:Nat}(f:n<=4000000000):R 127 [I n] st λv s=>v=I (bN n)/\s=st:=by
 refine bK ?_;rw[ank];have a:aj .leq none true (I n) (.int .i64 64) st=.ok (.bool (decide (n<=64))) st:=Wv
 have d:aj .add none true (I n) (.int .i64 480) st=.ok (I ((n+480:Nat):Int)) st:=F7
 have c:aj .sub none true (I ((n+480:Nat):Int)) (.int .i64 1) st=.ok (I ((n+479:Nat):Int)) st:=Gd
 have b:aj .quo none true (I ((n+479:Nat):Int)) (.int .i64 480) st=.ok (I (((n+479)/480:Nat):Int)) st:=by
  have e:aj .quo none true (I ((n+479:Nat):Int)) (.int .i64 480) st=.ok (I (IntKind.i64.wrap (Int.tdiv ((n+479:Nat):Int) 480))) st:=rfl;have a:Int.tdiv ((n+479:Nat):Int) 480=(((n+479)/480:Nat):Int):=rfl;rw[e,a,bA uM]
 rw[a,af,ag];unfold bN
 by_cases h:n<=64
 .rw[aHQ h,aHP rfl,aHP h];exact⟨rfl,rfl⟩
 .rw[aHL h,aHM xI,d,af,c,af,b,af,aHM h];exact⟨rfl,rfl⟩
def Qt (c:jI):Bool:=decide c.ok
def UN (c:jI):Qt c=(decide (xC c.nm)&&(decide (c.val.length<=8192)&&(!c.gone||decide (c.val=[])))):=by
 unfold Qt jI.ok;rw[aJH];simp only[aIf,aIK,aIP,Bool.not_eq_eq_eq_not,aIb];rcases Bool.eq_false_or_eq_true c.gone with h|h<;>simp[h]
def Y5 (c:jI):R 165 [.agg (qi c)] st λv s=>v=.bool (Qt c)/\Kp [] st s:=by
 refine bK ?_;rw[amE,bS];refine⟨rfl,?_⟩;unfold qi;rw[aT];generalize hl:[I c.sp,CV.str c.key,.str c.val,.bool c.gone]=l;have j:l[0]?=some (I c.sp):=abv
 have l1:l[1]?=some (.str c.key):=abv
 have l2:l[2]?=some (.str c.val):=abv
 have i:l[3]?=some (.bool c.gone):=abv
 have k:Kp [] st (St.new st (.cells l 159 false)):=(Kp.refl [] st).new _;have f:(St.new st (.cells l 159 false)).m.g st.nx=some (.cells l 159 false):=au _ _;have q:(St.new st (.cells l 159 false)).nx=st.nx+1:=rfl;generalize St.new st (.cells l 159 false)=s1 at*;have n:aZ [.int .i64 0,.str []] [(0,1,I c.sp),(1,1,.str c.key)] s1=.ok (uB c.nm) s1:=rfl;simp only[fl,ah,af,az,f,ar,aHN,j,l1,aw,n];refine(LM c.nm).mono ?_;rintro _ s2 ⟨rfl,b⟩;have a:=(b.keep st.nx uM wb).trans f;have p:aj .leq none true (I c.val.length) (.int .i64 8192) s2=.ok (.bool (decide (c.val.length<=8192))) s2:=Wv
 have o:aj .eql (some .str) true (.str c.val) (.str []) s2=.ok (.bool (decide (c.val=[]))) s2:=by rw[ep,mT]
 rw[UN];have K:=k.trans b wb
 by_cases e:xC c.nm
 .simp only[aHQ e,iy,aG,aIj,ba,af,ah,az,a,ar,aHN,l2,aw,gQ,p,aF]
  by_cases d:c.val.length<=8192
  .simp only[aHQ d,aIj,ba,af,az,a,ar,i,aw,cR,aG];cases hg:c.gone
   .simp only[aHY,aIb,aIj,aHV,aHH,bU,af,aF];exact⟨wb,K⟩
   .simp only[aIb,aHY,aHV,aHH,ba,af,az,a,ar,l2,aw,o,aF];exact⟨wb,K⟩
  .simp only[aHL d,aHV,aHH,bU,af,lr,bU];exact⟨wb,K⟩
 .simp only[aHL e,iy,aG,aHV,aHH,af,aF];exact⟨wb,K⟩
end
section
variable {X:List Nat}{v:CV}{cs:List jI}{K:CV->Prop}{σ:Nat}
def Sz {st:St}(a:Sl st X v 4 (l4 cs)){i:Nat}(hi:i<cs.length)(b:K (.agg (qi cs[i]))):gU 4 4 v (I i) st K:=
 Sl.gU (L:=cs.map qi) a uM (Yg cs) Yy _ (by rw[aJw];exact b)
structure pB (κ τ:Nat)(π:PI)(st:St)(L Lk:List aW)(T N fr:Nat):Prop where
 tr:gD τ π st L Lk T N fr
 get:st.m.g κ=some (.cells [.ptr τ 0,I ((N/8:Nat):Int)] 163 false)
 lt:κ<st.nx
 not:κ∉own τ π
section
variable {κ τ:Nat} {π:PI} {st st':St} {L Lk:List aW} {T N fr:Nat}
def pB.off (h:pB κ τ π st L Lk T N fr)(a:Kp X st st')(c:∀b∈κ::own τ π,b∉X):pB κ τ π st' L Lk T N fr:=
 ⟨h.tr.off a λb hb=>c b TL,(a.keep κ h.lt (c κ wb)).trans h.get,aId h.lt a.nx,h.not⟩
def pB.still (h:pB κ τ π st L Lk T N fr)(a:Kp [] st st'):pB κ τ π st' L Lk T N fr:=h.off a wb
def pB.tau (h:pB κ τ π st L Lk T N fr)(a:K (.ptr τ 0)):us (aA (.ptr κ 0) st) K:=by
 rw[az,h.get,ar];exact a
def xz (st:St)(σ:Nat)(n:Nat):Prop:=st.m.g σ=some (.cells [I n] 3 false)
def Ub {c:jI}{a d:Nat}(k:xz st σ a)(f:σ<st.nx)(w:a<=1000000000)(o:d<=8192)(n:c.val.length<=8192):R 126 [.agg (qi c),I d,.ptr σ 0] st λv s=>Kp [σ] st s/\xz s σ (a+(24+2*bN c.val.length+2*bN d)):=by
 refine bK ?_;rw[anl,bS];refine⟨rfl,?_⟩;rw[aT];unfold xz at*;generalize hl:qi c=l;have l2:l[2]?=some (.str c.val):=abv
 have e:Kp [] st (St.new st (.cells l 159 false)):=(Kp.refl [] st).new _;have p:(St.new st (.cells l 159 false)).m.g st.nx=some (.cells l 159 false):=au _ _;have n1:=e.nx;have b:=(e.keep σ f wb).trans k;generalize St.new st (.cells l 159 false)=s1 at*;have p1:=lD n;have p2:=lD o;have r:aj .mul none true (.int .i64 2) (I (bN c.val.length)) s1=.ok (I ((2*bN c.val.length:Nat):Int)) s1:=by rw[av,jj,bA uM];congr 2
 have q:aj .add none true (.int .i64 24) (I ((2*bN c.val.length:Nat):Int)) s1=.ok (I ((24+2*bN c.val.length:Nat):Int)) s1:=O8
 have u:aj .mul none true (.int .i64 2) (I (bN d)) s1=.ok (I ((2*bN d:Nat):Int)) s1:=by rw[av,jj,bA uM];congr 2
 have j:aj .add none false (I ((24+2*bN c.val.length:Nat):Int)) (I ((2*bN d:Nat):Int)) s1=.ok (I ((24+2*bN c.val.length+2*bN d:Nat):Int)) s1:=O8
 have i:aj .add none false (I a) (I ((24+2*bN c.val.length+2*bN d:Nat):Int)) s1=.ok (I ((a+(24+2*bN c.val.length+2*bN d):Nat):Int)) s1:=O8
 rw[bD,az,b,ar];simp only[aHG,aw];rw[ah,af,az,p,ar,aHN,l2,aw,gQ,af];refine(LQ uM).same ?_;rw[r,af,q,af];refine(LQ uM).same ?_;rw[u,af,j,af,i,af,aH,b,aS];refine⟨⟨rfl,rfl,wb⟩,⟨⟨?_,?_,afp⟩,afp,afp⟩,afp,?_⟩
 .rw[az,b];rfl
 .rw[az,b];rfl
 .refine⟨(e.mono wb).set _ (.inl wb) uM,?_⟩;rw[an];rfl
def Wp (κ τ σ b:Nat)(π:PI)(v:CV)(cs:List jI)(L Lk:List aW)(T N fr:Nat)(st:St)(fu:Nat)(c:List CV)(s:St):Prop:=
 ∃(i a:Nat) (m:xD),fu+i=cs.length/\c=[.ptr κ 0,.func (.func 126) [] [.ptr σ 0],.map b,v,I cs.length,I i]/\Kp [σ] st s/\xz s σ a/\a<=1000*i/\IV s b m/\b<s.nx/\a+kz L m (cs.drop i)=kz L [] cs/\∀p n,ry m p=some n->n<=8192
def Wo (κ σ a:Nat)(v:CV)(cs:List jI)(L:List aW)(m:xD)(c:jI)(f e i:Nat)(d:St)(b:List CV)(s:St):Prop:=
 b=[.ptr κ 0,.func (.func 126) [] [.ptr σ 0],.map a,.ptr f 0,.ptr e 0,I (sF L m c.nm),v,I cs.length,I i]/\Kp [] d s
set_option maxHeartbeats 1000000 in
def VV (h:pB κ τ π st L Lk T N fr)(hL:Small L)(V:Sl st [] v 4 (l4 cs))(hn:cs.length<=5000)(hs:xz st σ 0)(U:σ<st.nx)(x:σ∉κ::own τ π)(z:Sl st [σ] v 4 (l4 cs)):R 125 [.ptr κ 0,v,.func (.func 126) [] [.ptr σ 0]] st λy s=>Kp [σ] st s/\(((∀c∈cs,c.ok)/\y=I 0/\xz s σ (kz L [] cs))\/((∃c∈cs,¬c.ok)/\y=I 1)):=by
 refine bK ?_;rw[anm,cM];simp only[aK,aL];rw[V.len cs.length (pe _) uM,af];refine bG (λfu Q s=>∃i:Nat,fu+i=cs.length/\Q=[.ptr κ 0,v,.func (.func 126) [] [.ptr σ 0],v,I cs.length,I i]/\Kp [] st s/\∀c∈cs.take i,c.ok) ?_ (n:=cs.length) ⟨0,rfl,rfl,Kp.refl _ _,wb⟩;rintro fu Q s K ⟨i,hi,rfl,A,lG⟩ next;simp only[aK,aL];rw[dD,af,ag]
 by_cases e:i<cs.length
 .rw[aHQ e,aHP rfl];refine Sz (V.mono A) e ?_;refine mW rfl rfl rfl ?_;have k1:Kp [] s (St.new s (.cells (qi cs[i]) 159 false)):=(Kp.refl [] s).new _;have g1:(St.new s (.cells (qi cs[i]) 159 false)).m.g s.nx=some (.cells (qi cs[i]) 159 false):=au _ _;generalize St.new s (.cells (qi cs[i]) 159 false)=s1 at*;rw[aM (n:=4) g1 rfl,af];refine(Y5 cs[i]).mono ?_;rintro _ s2 ⟨rfl,k2⟩;have K2:=(A.trans k1 wb).trans k2 wb;rw[cR,af,ag]
  by_cases l:cs[i].ok
  .have O:Qt cs[i]=true:=aHQ l;rw[O,aHM xI,gJ i uM,af];refine next (fu-1) _ _ uM ⟨i+1,uM,rfl,K2,λc Mv=>?_⟩;rw[aIa e,aHT]at Mv;rcases Mv with j|j
   .exact lG c j
   .have:c=cs[i]:=by simpa using j
    rw[this];exact l
  .have O:Qt cs[i]=false:=aHL l;rw[O,aHP xI];exact⟨K2.mono wb,.inr ⟨⟨_,aIc e,l⟩,afp⟩⟩
 .rw[aHL e,aHM xI];have eF:∀c∈cs,c.ok:=by rwa [aHS uM]at lG
  rw[fV,aP,cM];simp only[aK,aL];rw[(V.mono A).len cs.length (pe _) uM,af];have k6:Kp [] s (St.new s (.map [] 0)):=(Kp.refl [] s).new _;have g6:(St.new s (.map [] 0)).m.g s.nx=some (.map [] 0):=au _ _;have n6:(St.new s (.map [] 0)).nx=s.nx+1:=rfl;generalize St.new s (.map [] 0)=s6 at*;have K6:=A.trans k6 wb;have nk:=A.nx;refine bG (Wp κ τ σ s.nx π v cs L Lk T N fr st) ?_ (n:=cs.length) ⟨0,0,[],rfl,rfl,K6.mono wb,(K6.keep σ U wb).trans hs,uM,⟨[],0,g6,rfl⟩,uM,wb,λp n h=>by simp[ry]at h⟩;rintro fu Q d K' ⟨i,sum,m,hi,rfl,H,NN,jS,l,Mh,M,Hy⟩ f;simp only[aK,aL];rw[dD,af,ag]
  by_cases e:i<cs.length
  .rw[aHQ e,aHP rfl];have r:=eF _ (aIc e);refine Sz (z.mono H) e ?_;generalize Fm:cs[i]=c at*;refine mW rfl rfl rfl ?_;have oq:Kp [] d (St.new d (.cells (qi c) 159 false)):=(Kp.refl [] d).new _;have Mz:(St.new d (.cells (qi c) 159 false)).m.g d.nx=some (.cells (qi c) 159 false):=au _ _;have I4:(St.new d (.cells (qi c) 159 false)).nx=d.nx+1:=rfl;generalize St.new d (.cells (qi c) 159 false)=a at*
   have f0:∀{s:St} (hg:s.m.g d.nx=some (.cells (qi c) 159 false)) {K:CV->Prop},K (I c.sp)->fl 0 (.ptr d.nx 0) s K:=λ{s} hg {K} B=>by
    unfold fl;rw[ah,af,az,hg,ar];exact B
   have f1:∀{s:St} (hg:s.m.g d.nx=some (.cells (qi c) 159 false)) {K:CV->Prop},K (.str c.key)->fl 1 (.ptr d.nx 0) s K:=λ{s} hg {K} B=>by
    unfold fl;rw[ah,af,az,hg,ar];exact B
   have f2:∀{s:St} (hg:s.m.g d.nx=some (.cells (qi c) 159 false)) {K:CV->Prop},K (.str c.val)->fl 2 (.ptr d.nx 0) s K:=λ{s} hg {K} B=>by
    unfold fl;rw[ah,af,az,hg,ar];exact B
   refine f0 Mz ?_;refine f1 Mz ?_;have W:aZ [.int .i64 0,.str []] [(0,1,I c.sp),(1,1,.str c.key)] a=.ok (.agg [I c.sp,.str c.key]) a:=rfl;rw[W,af];refine mW rfl rfl rfl ?_;have nJ:Kp [] a (St.new a (.cells [I c.sp,.str c.key] 166 false)):=(Kp.refl [] a).new _;have rJ:(St.new a (.cells [I c.sp,.str c.key] 166 false)).m.g a.nx=some (.cells [I c.sp,.str c.key] 166 false):=au _ _;have LI:(St.new a (.cells [I c.sp,.str c.key] 166 false)).nx=a.nx+1:=rfl;generalize St.new a (.cells [I c.sp,.str c.key] 166 false)=bV at*;have P:=oq.trans nJ wb;have Z:=(nJ.keep d.nx uM wb).trans Mz;have G:=H.trans P wb;have n8:=H.nx
   have u:IV bV s.nx m:=by
    obtain⟨es,cl,j,Y⟩:=l;exact⟨es,cl,(P.keep _ Mh wb).trans j,Y⟩
   have ab:xz bV σ sum:=(P.keep σ uM wb).trans NN;rw[aM (n:=2) rJ rfl,af,show CV.agg [I c.sp,.str c.key]=uB c.nm from rfl,u.lookup,af,aD,af,aI,aD,af];refine kY (Wo κ σ s.nx v cs L m c d.nx a.nx i bV) ?_ ?_
   .intro NH E;rw[cR,af,ag];cases hg:ry m c.nm with
    |some w=>
     rw[aKj,aHM xI];exact E _ _ ⟨by unfold sF;rw[hg];rfl,Kp.refl _ _⟩
    |none=>
     rw[aKk,aHP xI,bD]
     have D:=h.off G λb W hh=>by
      have:b=σ:=by simpa using hh
      subst this;exact x W
     rw[bj,af,ah,af];refine D.tau ?_;rw[af];refine(xT r.1).mono ?_;rintro _ dv ⟨rfl,yj⟩;have C:=D.still yj;have yT:(je c.nm).length<=48:=by have:=r.1.2;unfold je;simp;omega
     refine(Wx C.tr yT).mono ?_;rintro _ jG ⟨Dn,rfl⟩;rw[aD,af,aI,aD,af,aI,aI,aD,af];refine⟨⟨⟨?_,afp⟩,afp,afp⟩,afp,?_⟩
     .exact C.tau rfl
     .have e0:aj .neq (some .int) true (I 0) (.int .i64 0) jG=.ok (.bool false) jG:=rfl;rw[e0,af,ag,aHM xI,gQ,af];exact E _ _ ⟨by unfold sF;rw[hg];rfl,yj.trans Dn wb⟩
   .rintro _ eu ⟨rfl,k⟩;simp only[aK,aL];have qS:=(k.keep d.nx uM wb).trans Z;have ai:=k.nx;rw[aM (n:=4) qS rfl,af,dM]
    have F:sF L m c.nm<=8192:=by
     unfold sF;cases hg:ry m c.nm with
     |none=>exact hL.get _
     |some w=>exact Hy _ _ hg
    have ac:xz eu σ sum:=(k.keep σ uM wb).trans ab;refine(Ub ac uM uM F r.2.1).mono ?_;rintro _ eP ⟨o,ad⟩;have ae:=o.nx
    have Zq:∀q,s.nx<=q->q∉[σ]:=λq hq hh=>by have:q=σ:=by simpa using hh
                                            omega
    have aa:=((o.keep a.nx uM (Zq _ uM)).trans (k.keep a.nx uM wb)).trans rJ;have My:=(o.keep d.nx uM (Zq _ uM)).trans qS;rw[aM (n:=2) aa rfl,af,show CV.agg [I c.sp,.str c.key]=uB c.nm from rfl];refine f2 My ?_;rw[gQ,af]
    have S:IV eP s.nx m:=by
     obtain⟨es,cl,j,Y⟩:=u;exact⟨es,cl,((o.keep _ uM (Zq _ uM)).trans (k.keep _ uM wb)).trans j,Y⟩
    obtain⟨blk,u1,u2⟩:=S.update c.nm c.val.length;rw[u1,aP,gJ i uM,af];have TI:=(G.trans k wb).trans o afk;have p1:=lD r.2.1;have p2:=lD F;refine f (fu-1) _ _ uM ⟨i+1,sum+(24+2*bN c.val.length+2*bN (sF L m c.nm)),_,uM,rfl,TI.set _ (.inr uM) uM,?_,?_,u2,?_,?_,λp n J=>?_⟩
    .exact(ak _ _ _ _ uM).trans ad
    .omega
    .show s.nx<eP.nx;omega
    .rw[aIe e,Fm]at M;rw[<-M];show _=sum+((24+2*bN c.val.length+2*bN (sF L m c.nm))+kz L (vu m c.nm c.val.length) (cs.drop (i+1)));omega
    .rw[Hf]at J
     split at J
     .cases J;exact r.2.1
     .exact Hy _ _ J
  .rw[aHL e,aHM xI];rw[aIp uM]at M;have:sum=kz L [] cs:=M;subst this;exact⟨H,.inl ⟨eF,afp,NN⟩⟩
def J8 (h:pB κ τ π st L Lk T N fr)(p:Small L)(f:Sl st [] v 4 (l4 cs))(o:cs.length<=5000):R 77 [.ptr κ 0,v] st λy s=>Kp [] st s/\(((∀c∈cs,c.ok)/\y=.tuple [I (kz L [] cs),I 0])\/((∃c∈cs,¬c.ok)/\y=.tuple [I 0,I 1])):=by
 refine bK ?_;rw[w77,cc,af,ag,aHM xI,cz,aP,aH,au,aS];refine⟨⟨rfl,rfl,wb⟩,?_⟩;rw[Ei,lV,af];have e:bz [CV.int .i64 0] 0 (CV.cK (.int .i64 0))=[I ((0:Nat):Int)]:=rfl;rw[e];have a:Kp [] st (St.new st (.cells [I ((0:Nat):Int)] 3 false)):=(Kp.refl [] st).new _;have r:xz (St.new st (.cells [I ((0:Nat):Int)] 3 false)) st.nx 0:=au _ _;have x:(St.new st (.cells [I ((0:Nat):Int)] 3 false)).nx=st.nx+1:=rfl;generalize St.new st (.cells [I ((0:Nat):Int)] 3 false)=s1 at*;have h1:=h.still a
 have w:st.nx∉κ::own τ π:=λhh=>by
  rcases aHJ.1 hh with h2|h2
  .have:=h.lt;omega
  .have:=h.tr.sR _ h2;omega
 have u:=(f.eH (Y:=[st.nx]) wb).mono (a.mono wb);refine(VV h1 p (f.mono a) o r uM w u).mono ?_;rintro y s3 ⟨j,k⟩
 have i:Kp [] st s3:=a.trans j λq n=>.inr (by have:q=st.nx:=by simpa using n
                                              omega)
 rcases k with⟨b,rfl,l⟩|⟨b,rfl⟩
 .have d:aj .neq (some .int) true (I 0) (.int .i64 0) s3=.ok (.bool false) s3:=rfl;rw[d,af,ag,aHM xI,az,show s3.m.g st.nx=_ from l,ar];exact⟨i,.inl ⟨b,rfl⟩⟩
 .have d:aj .neq (some .int) true (I 1) (.int .i64 0) s3=.ok (.bool true) s3:=rfl;rw[d,af,ag,aHP rfl];exact⟨i,.inr ⟨b,rfl⟩⟩
end
end
section
variable {κ τ:Nat} {π:PI} {st st':St} {L Lk:List aW} {T N fr:Nat}
def UQ (τ N:Nat):rU:=.cells [.ptr τ 0,I ((N/8:Nat):Int)] 163 false
def AM {s:St}(a:s.m.g κ=some (UQ τ N)){K:CV->Prop}(b:K (.ptr τ 0)):eQ 0 (.ptr κ 0) s K:=by
 unfold eQ;rw[bj,af,ah,af,az,a];exact b
def Yf (v:st.m.g κ=some (UQ τ N))(d:κ<st.nx){c:jI}(x:c.ok){Q:CV->St->Prop}(u:c.gone=false->∀s,Kp [] st s->R 11 [.ptr τ 0,.str (je c.nm),.str c.val] s Q)
 (w:c.gone=true->∀s,Kp [] st s->R 41 [.ptr τ 0,.str (je c.nm)] s λy s'=>∃b e,y=.tuple [b,e]/\Q e s'):R 80 [.ptr κ 0,.agg (qi c)] st Q:=by
 refine bK ?_;rw[w80,bS];refine⟨rfl,?_⟩;rw[aT];unfold qi;generalize hl:[I c.sp,CV.str c.key,.str c.val,.bool c.gone]=l;have q:l[0]?=some (I c.sp):=abv
 have l1:l[1]?=some (.str c.key):=abv
 have l2:l[2]?=some (.str c.val):=abv
 have p:l[3]?=some (.bool c.gone):=abv
 have r:Kp [] st (St.new st (.cells l 159 false)):=(Kp.refl [] st).new _;have n:(St.new st (.cells l 159 false)).m.g st.nx=some (.cells l 159 false):=au _ _;have B:(St.new st (.cells l 159 false)).nx=st.nx+1:=rfl;generalize St.new st (.cells l 159 false)=s1 at*;have z:aZ [.int .i64 0,.str []] [(0,1,I c.sp),(1,1,.str c.key)] s1=.ok (uB c.nm) s1:=rfl;simp only[fl,ah,af,az,n,ar,aHN,q,l1,aw,z];refine(xT x.1).mono ?_;rintro _ s2 ⟨rfl,k⟩;have A:=(k.keep st.nx uM wb).trans n;have i:=r.trans k wb;have a:=(i.keep κ d wb).trans v;simp only[A,ar,p,aw,ag];cases j:c.gone with
 |true=>
  rw[aHP rfl];refine AM a ?_;refine(w j s2 i).mono ?_;rintro _ o ⟨b,e,rfl,f⟩;rw[aD,af,aI,aD,af];exact f
 |false=>
  rw[aHM xI,bD,bj,af,ah,af,az,a];simp only[UQ,ar,aHG,aHN,aw,l2];refine(u j s2 i).mono ?_;intro y o f;exact⟨⟨afp,afp,afp⟩,afp,f⟩
set_option maxHeartbeats 1000000 in
def IG (h:pB κ τ π st L Lk T N fr)(hL:Small L){v:CV}{cs:List jI}(X:Sl st [] v 4 (l4 cs))(hn:cs.length<=5000){Q:CV->St->Prop}
 (Z:(∃c∈cs,¬c.ok)->∀s,Kp [] st s->Q (I 1) s) (W:(∀c∈cs,c.ok)->fr<kz L [] cs\/N/8<kz L [] cs->∀s,Kp [] st s->Q (I 3) s) (q0:cs=[]->∀s,Kp [] st s->Q (I 0) s)
 (b:Nat->St->Prop) (r d:St->Prop) (x:∀i s,b i s->s.m.g κ=some (UQ τ N)/\Sl s [] v 4 (l4 cs)) (o:∀s,r s->s.m.g κ=some (UQ τ N)) (l:∀s,d s->s.m.g κ=some (UQ τ N))
 (z:∀i s s',b i s->Kp [] s s'->b i s') (e:(∀c∈cs,c.ok)->kz L [] cs<=fr->kz L [] cs<=N/8->∀s,Kp [] st s->b 0 s)
 (E:∀i (hi:i<cs.length) s,(∀c∈cs,c.ok)->b i s->R 80 [.ptr κ 0,.agg (qi cs[i])] s λy s'=>(y=I 0/\b (i+1) s')\/(y=I 3/\r s'))
 (M:∀s,(∀c∈cs,c.ok)->b cs.length s->R 40 [.ptr τ 0] s λy s'=>(y=I 0/\Q (I 0) s')\/(y=I 3/\r s')\/(y=I 20/\d s'))
 (S:∀s,r s->R 59 [.ptr τ 0] s λ_ s'=>Q (I 3) s') (J:∀s,d s->R 59 [.ptr τ 0] s λ_ s'=>Q (I 20) s') (hN:N<=100000) (jH:fr<=100000):R 31 [.ptr κ 0,v] st Q:=by
 refine bK ?_;rw[w31];refine(J8 h hL X hn).mono ?_;rintro _ s1 ⟨f,⟨q,rfl⟩|⟨VG,rfl⟩⟩
 .have H:∀s,aj .neq (some .int) true (I 0) (.int .i64 0) s=.ok (.bool false) s:=λs=>rfl;have Y:∀s,aj .neq (some .int) true (I 3) (.int .i64 0) s=.ok (.bool true) s:=λs=>rfl;rw[aD,af,aI,aD,af,H,af,ag,aHM xI];have h1:=h.still f
  have A7:R 79 [.ptr κ 0] s1 λy s=>y=I fr/\s=s1:=by
   refine bK ?_;rw[w79,cc,af,ag,aHM xI];refine AM h1.get ?_;refine(Pq h1.tr).same ?_;exact⟨rfl,rfl⟩
  refine A7.same ?_;generalize hm:kz L [] cs=n at*;have e6:aj .gtr none false (I n) (I fr) s1=.ok (.bool (decide (fr<n))) s1:=BT
  have e7:aj .gtr none false (I n) (I ((N/8:Nat):Int)) s1=.ok (.bool (decide (N/8<n))) s1:=BT
  rw[e6,af]
  by_cases D:fr<n
  .simp only[aHQ D,aG,aIb,aHH,aHV,bU,af,jV,aF,aIj,ag];exact W q (.inl D) s1 f
  .have C:=h1.get;simp only[aHL D,aG,aHY,aHH,aHV,ba,af,jV,bj,ah,az,C,ar,aHN,aHI,aHG,aw,e7,aF,ag]
   by_cases O:N/8<n
   .rw[aHP (aHQ O)];exact W q (.inr O) s1 f
   .rw[aHM (by simpa using O),(X.mono f).len cs.length (pe _) uM,af];have e8:aj .eql (some .int) true (I cs.length) (.int .i64 0) s1=.ok (.bool (decide (cs.length=0))) s1:=by rw[av,cC];congr 2;simp only[aIi];omega
    rw[e8,af,ag]
    by_cases G:cs.length=0
    .rw[aHP (aHQ G)];exact q0 (aIh.1 G) s1 f
    .rw[aHM (by simpa using G),cM];simp only[aK,aL];rw[af];refine bG (λfu P s=>∃i:Nat,fu+i=cs.length/\P=[.ptr κ 0,v,I cs.length,I i]/\b i s) ?_ (n:=cs.length) ⟨0,rfl,rfl,e q uM uM s1 f⟩;rintro fu P a K ⟨i,hi,rfl,F⟩ next;simp only[aK,aL];obtain⟨B,A⟩:=x i a F;rw[dD,af,ag]
     by_cases u:i<cs.length
     .rw[aHQ u,aHP rfl];refine Sz A u ?_;refine mW rfl rfl rfl ?_;have k5:Kp [] a (St.new a (.cells (qi cs[i]) 159 false)):=(Kp.refl [] a).new _;have g5:(St.new a (.cells (qi cs[i]) 159 false)).m.g a.nx=some (.cells (qi cs[i]) 159 false):=au _ _;generalize St.new a (.cells (qi cs[i]) 159 false)=V at*;rw[aM (n:=4) g5 rfl,af];refine(E i u V q (z i a V F k5)).mono ?_;rintro _ U (⟨rfl,w⟩|⟨rfl,w⟩)
      .rw[H,af,ag,aHM xI,gJ i uM,af];exact next (fu-1) _ _ uM ⟨i+1,uM,rfl,w⟩
      .rw[Y,af,ag,aHP rfl];refine AM (o U w) ?_;exact(S U w).mono λy s p=>p
     .rw[aHL u,aHM xI];have eT:i=cs.length:=by omega
      subst eT;refine AM B ?_;refine(M a q F).mono ?_;rintro _ k (⟨rfl,j⟩|⟨rfl,j⟩|⟨rfl,j⟩)
      .rw[H,af,ag,aHM xI];exact j
      .rw[Y,af,ag,aHP rfl];refine AM (o k j) ?_;exact(S k j).mono λy s p=>p
      .have Je:aj .neq (some .int) true (I 20) (.int .i64 0) k=.ok (.bool true) k:=rfl;rw[Je,af,ag,aHP rfl];refine AM (l k j) ?_;exact(J k j).mono λy s p=>p
 .have e1:aj .neq (some .int) true (I 1) (.int .i64 0) s1=.ok (.bool true) s1:=rfl;rw[aD,af,aI,aD,af,e1,af,ag,aHP rfl];exact Z VG s1 f
end
section
variable {κ τ:Nat} {π:PI} {st st':St} {L Lk:List aW} {T N fr:Nat}
def Ta (τ:Nat)(π:PI)(L:List aW)(T N:Nat)(cs:List jI)(st:St)(y:CV)(s:St):Prop:=
 y=I 20/\(∀c∈cs,c.ok)/\SW τ π (λD=>pX L N (T+10000) D\/pX (jW L cs) N (T+10000) D) st s
def Tb (κ τ:Nat)(π:PI)(L:List aW)(T N:Nat)(cs:List jI)(st:St)(y:CV)(s:St):Prop:=
 ∃e:Nat,y=I e/\(e=0\/e=1\/e=3)/\(e=0->∀c∈cs,c.ok)/\∃b f fr' d,b.a=π.a/\f<=T+10000/\nD τ π b st s/\pB κ τ b s d d f N fr'/\Small d/\d=(if e=0 then jW L cs else L)/\b.D.set=π.D.set
def Wu (κ τ:Nat)(π:PI)(L:List aW)(T N:Nat)(cs:List jI)(st:St)(y:CV)(s:St):Prop:=Tb κ τ π L T N cs st y s\/Ta τ π L T N cs st y s
def WD {a v:Nat}(c:a<=48)(b:v<=8192)(x y:List aW):(if 48<a\/8192<v then x else y)=y:=aHM uM
def Wf (h:pB κ τ π st L L T N fr)(r:Small L){v:CV}{cs:List jI}(J:Sl st (own τ π) v 4 (l4 cs))(S:cs.length<=5000)(X:T<=900000000)(Y:N<=8000):R 31 [.ptr κ 0,v] st (Wu κ τ π L T N cs st):=by
 have jH:=h.tr.Fs;have U:=h.tr.sR;have d:∀s,Kp [] st s->nD τ π π st s/\pB κ τ π s L L T N fr:=λs k=>⟨oY k,h.still k⟩
 refine IG h r (J.eH wb) S (λq s k=>.inl ⟨1,rfl,wb,λe=>uM,π,T,fr,L,rfl,uM,(d s k).1,(d s k).2,r,rfl,rfl⟩) (λ_ _ s k=>.inl ⟨3,rfl,wb,λe=>uM,π,T,fr,L,rfl,uM,(d s k).1,(d s k).2,r,rfl,rfl⟩)
  (λe s k=>.inl ⟨0,rfl,wb,λ_=>ady,π,T,fr,L,rfl,uM,(d s k).1,(d s k).2,r,by subst e;rfl,rfl⟩)
  (λi s=>Kp (own τ π) st s/\Small (jW L (cs.take i))/\∃fr',gD τ π s (jW L (cs.take i)) L T N fr') (λs=>Kp (own τ π) st s/\∃M fr',gD τ π s M L T N fr') (λs=>(∀c∈cs,c.ok)/\SX τ π (λD=>pX L N (T+10000) D\/pX (jW L cs) N (T+10000) D) st s) ?_ ?_ ?_ ?_ ?_ ?_ ?_ ?_ ?_ uM uM
 .rintro i s ⟨k,_⟩;exact⟨(k.keep κ h.lt h.not).trans h.get,(J.mono k).eH wb⟩
 .rintro s ⟨k,_⟩;exact(k.keep κ h.lt h.not).trans h.get
 .rintro s ⟨_,k,_⟩;exact(k.keep κ h.lt h.not).trans h.get
 .rintro i s s' ⟨k,a,f,t⟩ j;exact⟨k.trans j wb,a,f,t.still j⟩
 .intro _ _ _ s k;exact⟨k.mono wb,r,fr,h.tr.still k⟩
 .rintro i hi s B ⟨k,a,f,t⟩;have hc:=B _ (aIc hi);have O:(je cs[i].nm).length<=48:=by have:=hc.1.2;unfold je;simp;omega
  have I:=a.do hc;rw[<-mG L cs i hi]at I;have K:=mG L cs i hi;have V:s.m.g κ=some (UQ τ N):=(k.keep κ h.lt h.not).trans h.get;refine Yf V (aId h.lt k.nx) hc (λC s2 j=>?_) (λC s2 j=>?_)
  .refine(aee (t.still j) (je cs[i].nm) cs[i].val).mono ?_;intro y Q u;unfold abQ at u;obtain⟨⟨o,_⟩,rfl,fr',l⟩:=u;have z:=(k.trans j wb).trans o afk;have F:=hc.2.1;rw[WD O F]at l;rw[aHM uM]
   by_cases w:f<24+bN cs[i].val.length
   .rw[aHP w]at l⊢;exact .inr ⟨rfl,z,_,_,l⟩
   .rw[aHM w]at l⊢;refine .inl ⟨rfl,z,I,fr',?_⟩;rw[K];unfold Fx;rw[aHM (by simp[C])];exact l
  .refine(aek (t.still j) (je cs[i].nm)).mono ?_;intro y Q u;unfold acf at u;obtain⟨⟨o,_⟩,rfl,fr',l⟩:=u;have z:=(k.trans j wb).trans o afk;rw[aHM uM]at l⊢
   by_cases w:f<24
   .rw[aHP w]at l⊢;exact⟨_,_,rfl,.inr ⟨rfl,z,_,_,l⟩⟩
   .rw[aHM w]at l⊢;refine⟨_,_,rfl,.inl ⟨rfl,z,I,fr',?_⟩⟩;rw[K];unfold Fx;rw[aHP C];exact l
 .rintro s B ⟨k,a,f,t⟩;rw[aHS (aHK _)]at a t;obtain⟨c,P⟩:=t.tc;refine(Gi P X Y).mono ?_;rintro _ s2 (⟨rfl,j,_⟩|⟨rfl,n,G,⟨o,H⟩,E,x⟩|⟨rfl,j,x,⟨F',D',d1,d2,d3⟩,d4⟩)
  .exact .inr (.inl ⟨rfl,k.trans j wb,_,_,t.still j⟩)
  rotate_left
  .exact .inr (.inr ⟨rfl,B,k.trans j afk,x,⟨F',D',d1,λb q=>(d2 b q).imp id λh=>aIz k.nx h,d3⟩,d4⟩)
  .have p:=k.trans o afk;have A:=λb q=>(H b q).imp id λh=>aIz k.nx h;refine .inl ⟨rfl,.inl ⟨0,rfl,wb,λ_=>B,n,T+10000,f,jW L cs,G,uM,⟨p,A⟩,⟨E.t2,(p.keep κ h.lt h.not).trans h.get,aId h.lt p.nx,λhh=>?_⟩,a,rfl,x⟩⟩;rcases A κ hh with h1|h1
   .exact h.not h1
   .have:=h.lt;omega
 .rintro s ⟨k,M,f,t⟩;refine(MY t).mono ?_;rintro _ s2 ⟨rfl,n,f',G,⟨o,H⟩,E,x⟩;have p:=k.trans o afk;have A:=λb q=>(H b q).imp id λh=>aIz k.nx h;refine .inl ⟨3,rfl,wb,λe=>uM,n,T,f',L,G,uM,⟨p,A⟩,⟨E,(p.keep κ h.lt h.not).trans h.get,aId h.lt p.nx,λhh=>?_⟩,r,rfl,x⟩;rcases A κ hh with h1|h1
  .exact h.not h1
  .have:=h.lt;omega
 .rintro s ⟨W,hd⟩;exact(Gj hd).mono λ_ s2 Z=>.inr ⟨rfl,W,Z⟩
def LG {p:Nm}(h:xC p):(je p).length<=48:=by have:=h.2;unfold je;simp;omega
def RT (h:pB κ τ π st L Lk T N fr){p:Nm}(b:xC p):R 33 [.ptr κ 0,I p.1,.str p.2] st λy s=>Kp [] st s/\y=.tuple [.str ((iE L (je p)).getD []),.bool (iE L (je p)).isSome,I 0]:=by
 refine bK ?_;rw[w33];have j:aZ [.int .i64 0,.str []] [(0,1,I p.1),(1,1,.str p.2)] st=.ok (uB p) st:=rfl;rw[j,af];refine mW rfl rfl rfl ?_;have d:Kp [] st (St.new st (.cells [I p.1,.str p.2] 166 false)):=(Kp.refl [] st).new _;have f:(St.new st (.cells [I p.1,.str p.2] 166 false)).m.g st.nx=some (.cells [I p.1,.str p.2] 166 false):=au _ _;have q:(St.new st (.cells [I p.1,.str p.2] 166 false)).nx=st.nx+1:=rfl;generalize St.new st (.cells [I p.1,.str p.2] 166 false)=s1 at*;rw[cc,af,ag,aHM xI,aM (n:=2) f rfl,af];refine(LM p).mono ?_;rintro _ s2 ⟨rfl,a⟩;have h2:=(h.still d).still a;have k:=(a.keep st.nx uM wb).trans f;rw[aHQ b,cR,af,ag,aHM xI,bD,bj,af,ah,af];refine h2.tau ?_;rw[aM (n:=2) k rfl,af];refine(xT b).mono ?_;rintro _ o ⟨rfl,c⟩;have e:=h2.still c;refine(Wx e.tr (LG b)).mono ?_;rintro _ l ⟨i,rfl⟩;rw[aD,af,aI,aD,af,aI,aI,aD,af];exact⟨⟨⟨e.tau rfl,afp⟩,afp,afp⟩,afp,((d.trans a wb).trans c wb).trans i wb,rfl⟩
def Ox (cs:List jI)(i:Nat)(hi:i<cs.length):l4 (cs.take i)++(CV.agg (qi cs[i])).cK=l4 (cs.take (i+1)):=by
 rw[aIa hi];unfold l4;rw[aIQ,aKa];simp
end
section
variable {κ τ:Nat} {π:PI} {st st':St} {L Lk:List aW} {T N fr:Nat}
def qL (sp:Int)(to:bY):bY:=if to=[]then (if sp+1<256 then je (sp+1,[])else [])else je (sp,to)
def zy (p:aW):aW:=(p.1.drop 1,p.2)
def xZ (L:List aW)(sp:Int)(fm to:bY):List aW:=(L.filter (Br (je (sp,fm)) (qL sp to))).map zy
def Y2 {sp:Int}{fm to:bY}{p:aW}(h:Br (je (sp,fm)) to p=true):1<=p.1.length:=by
 rw[FC]at h;simp only[aIf,aIP]at h;cases hp:p.1 with
 |cons a l=>simp
 |nil=>
  rw[hp]at h;have:=wU h.1 (LH _);unfold je at this;cases this
set_option maxHeartbeats 1000000 in
def Lv (h:pB κ τ π st L Lk T N fr){sp:Int}{fm to:bY}(u:xC (sp,fm))(hq:xC (sp,to))(hl:L.length<=1000000):R 34 [.ptr κ 0,I sp,.str fm,.str to] st λy s=>∃x,y=.tuple [x,I 0]/\Kp [] st s/\Sl s [] x 2 (jx (xZ L sp fm to)):=by
 refine bK ?_;rw[w34];have FY:aZ [.int .i64 0,.str []] [(0,1,I sp),(1,1,.str fm)] st=.ok (.agg [I sp,.str fm]) st:=rfl;have BO:aZ [.int .i64 0,.str []] [(0,1,I sp),(1,1,.str to)] st=.ok (.agg [I sp,.str to]) st:=rfl;rw[FY,af,BO,af,cz,aP,cz,aP];have k1:Kp [] st (St.new st (.cells [.int .i64 0,.str []] 166 false)):=(Kp.refl [] st).new _;have g1:(St.new st (.cells [.int .i64 0,.str []] 166 false)).m.g st.nx=some (.cells [.int .i64 0,.str []] 166 false):=au _ _;have n1:(St.new st (.cells [.int .i64 0,.str []] 166 false)).nx=st.nx+1:=rfl;generalize St.new st (.cells [.int .i64 0,.str []] 166 false)=s1 at*;have k2:Kp [] s1 (St.new s1 (.cells [.int .i64 0,.str []] 166 false)):=(Kp.refl [] s1).new _;have g2:(St.new s1 (.cells [.int .i64 0,.str []] 166 false)).m.g s1.nx=some (.cells [.int .i64 0,.str []] 166 false):=au _ _;have n2:(St.new s1 (.cells [.int .i64 0,.str []] 166 false)).nx=s1.nx+1:=rfl;generalize St.new s1 (.cells [.int .i64 0,.str []] 166 false)=s2 at*;have rJ:=(k2.keep st.nx uM wb).trans g1;rw[aH,rJ,aS,aT,show bz [.int .i64 0,.str []] 0 [I sp,.str fm]=[I sp,.str fm]from rfl];refine⟨⟨rfl,rfl,wb⟩,?_⟩;have k3:Kp [] st (St.set s2 st.nx (.cells [I sp,.str fm] 166 false)):=(k1.trans k2 wb).set _ (.inr (aHK _)) uM;have g3:(St.set s2 st.nx (.cells [I sp,.str fm] 166 false)).m.g st.nx=some (.cells [I sp,.str fm] 166 false):=an _ _ _;have Ih:(St.set s2 st.nx (.cells [I sp,.str fm] 166 false)).m.g s1.nx=_:=(ak _ _ _ _ uM).trans g2;have n3:(St.set s2 st.nx (.cells [I sp,.str fm] 166 false)).nx=s2.nx:=rfl;generalize St.set s2 st.nx (.cells [I sp,.str fm] 166 false)=s3 at*;rw[aH,Ih,aS,aT,show bz [.int .i64 0,.str []] 0 [I sp,.str to]=[I sp,.str to]from rfl];refine⟨⟨rfl,rfl,wb⟩,?_⟩;have k4:Kp [] st (St.set s3 s1.nx (.cells [I sp,.str to] 166 false)):=k3.set _ (.inr uM) uM
 have g4:(St.set s3 s1.nx (.cells [I sp,.str to] 166 false)).m.g s1.nx=some (.cells [I sp,.str to] 166 false):=an _ _ _;have TD:(St.set s3 s1.nx (.cells [I sp,.str to] 166 false)).m.g st.nx=_:=(ak _ _ _ _ uM).trans g3;have n4:(St.set s3 s1.nx (.cells [I sp,.str to] 166 false)).nx=s3.nx:=rfl;generalize St.set s3 s1.nx (.cells [I sp,.str to] 166 false)=s4 at*;have h4:=h.still k4;rw[cc,af,ag,aHM xI,aM (n:=2) TD rfl,af];refine(LM (sp,fm)).mono ?_;rintro _ s5 ⟨rfl,o⟩;have g5:=(o.keep s1.nx uM wb).trans g4;have O:=(o.keep st.nx uM wb).trans TD;have n5:=o.nx;rw[aHQ u,cR,af,aG];simp only[aIb,aHH,aHV,aHY,ba,dI];rw[aM (n:=2) g5 rfl,af];refine(LM (sp,to)).mono ?_;rintro _ s6 ⟨rfl,l⟩;have g6:=(l.keep s1.nx uM wb).trans g5;have J:=(l.keep st.nx uM wb).trans O;have n6:=l.nx;rw[aHQ hq,cR,af,aF,aHM xI,af,ag,aHM xI,aM (n:=2) g6 rfl,af];refine(xT hq).mono ?_;rintro _ d ⟨rfl,C⟩;have H:=(C.keep st.nx uM wb).trans J;have n7:=C.nx;have h7:=((h4.still o).still l).still C;have K7:=((k4.trans o wb).trans l wb).trans C wb;refine kY (λB s=>B=[.ptr κ 0,.ptr st.nx 0,.str (qL sp to)]/\Kp [] d s) ?_ ?_
 .intro mM Y;have V:aj .eql (some .str) true (.str to) (.str []) d=.ok (.bool (decide (to=[]))) d:=by rw[ep,mT]
  rw[V,af,ag];obtain⟨⟨p1,p2⟩,p3⟩:=u;dsimp only at p1 p2
  by_cases f:to=[]
  .have U:aj .add none true (I sp) (.int .i64 1) d=.ok (I (sp+1)) d:=by rw[av,cI,bA uM]
   have S:aj .lss none true (I (sp+1)) (.int .i64 256) d=.ok (.bool (decide (sp+1<256))) d:=by rw[av,c8]
   rw[aHQ f,aHP rfl,U,af,S,af,ag]
   by_cases r:sp+1<256
   .have D:aZ [.int .i64 0,.str []] [(0,1,I (sp+1)),(1,1,.str [])] d=.ok (uB (sp+1,[])) d:=rfl;rw[aHQ r,aHP rfl,af,D,af];refine(xT (p:=(sp+1,[])) ⟨⟨by dsimp only;omega,r⟩,wb⟩).mono ?_;rintro _ s8 ⟨rfl,k⟩;exact Y _ _ ⟨by unfold qL;rw[aHP f,aHP r],k⟩
   .rw[aHL r,aHM xI];exact Y _ _ ⟨by unfold qL;rw[aHP f,aHM r],Kp.refl _ _⟩
  .rw[aHL f,aHM xI];exact Y _ _ ⟨by unfold qL;rw[aHM f],Kp.refl _ _⟩
 .rintro _ s8 ⟨rfl,k⟩;simp only[aK,aL];have h8:=h7.still k;have g8:=(k.keep st.nx uM wb).trans H;rw[bD,bj,af,ah,af];refine h8.tau ?_;rw[aM (n:=2) g8 rfl,af];refine(xT u).mono ?_;rintro _ s9 ⟨rfl,k9⟩;have E:=h8.still k9;refine(TZ E.tr _ _).mono ?_;rintro _ a ⟨fc,rfl,Z,A⟩;have e0:aj .neq (some .int) true (I 0) (.int .i64 0) a=.ok (.bool false) a:=rfl;rw[aD,af,aI,aD,af];refine⟨⟨⟨E.tau rfl,afp⟩,afp,afp⟩,afp,?_⟩;have X:=((K7.trans k wb).trans k9 wb).trans Z wb
  have W:eA a:=by
   obtain⟨⟨G,Gk,f,_⟩,_⟩:=(E.still Z).tr;exact f.fr
  rw[e0,af,ag,aHM xI,cM];unfold xZ;have Ko:∀p∈L.filter (Br (je (sp,fm)) (qL sp to)),1<=p.1.length:=λp u=>Y2 (aIR.1 u).2;have aa:(L.filter (Br (je (sp,fm)) (qL sp to))).length<=1000000:=aIz (List.length_filter_le _ _) hl;generalize L.filter (Br (je (sp,fm)) (qL sp to))=M at*;simp only[aK,aL];rw[A.len M.length (oK _) uM,af];refine bG (λfu B s=>∃i x F,fu+i=M.length/\B=[x,fc,I M.length,I i]/\Kp [] a s/\Own s x 2 82 (jx ((M.take i).map zy)) F/\∀b∈F,a.nx<=b/\b<s.nx) ?_ (n:=M.length) ⟨0,.ae,[],rfl,rfl,Kp.refl _ _,.inl ⟨rfl,rfl,rfl⟩,wb⟩;rintro fu B s K ⟨i,x,F,hi,rfl,v,e,hF⟩ next;simp only[aK,aL];rw[dD,af,ag];have nk:=v.nx
  by_cases hc:i<M.length
  .rw[aHQ hc,aHP rfl];have cs:=A.mono v;refine cs.gU (L:=M.map gh) uM (Ev _) (i:=i) I2 _ ?_;rw[aJw];refine mW rfl rfl rfl ?_;have kA:Kp [] s (St.new s (.cells (gh M[i]) 41 false)):=(Kp.refl [] s).new _;have gA:(St.new s (.cells (gh M[i]) 41 false)).m.g s.nx=some (.cells (gh M[i]) 41 false):=au _ _;have nA:(St.new s (.cells (gh M[i]) 41 false)).nx=s.nx+1:=rfl;have oA:Own (St.new s (.cells (gh M[i]) 41 false)) x 2 82 (jx ((M.take i).map zy)) F:=e.mono λb w=>aX _ _ _ (hF b w).2;generalize St.new s (.cells (gh M[i]) 41 false)=c at*;have kS:=(Kp.refl [] c).skip;have hn:(St.skip c).m.g c.nx=none:=kA.fresh (v.fresh W) _ (aHK _);have gS:(St.skip c).m.g s.nx=some (.cells (gh M[i]) 41 false):=gA;have nS:(St.skip c).nx=c.nx+1:=rfl;have oS:Own (St.skip c) x 2 82 (jx ((M.take i).map zy)) F:=oA.mono λ_ _=>rfl;generalize St.skip c=j at*;have Vj:=Ko _ (aIc hc)
   have P:iI (.str M[i].1) (some (.int .i64 1)) none j=.ok (.str (M[i].1.drop 1)) j:=by
    unfold iI;have:=xu 1 M[i].1.length M[i].1.length;rw[aHP Vj]at this;dsimp only;rw[show(some (CV.int .i64 1))=some (I ((1:Nat):Int))from rfl,this];dsimp only;rw[aHS aaK]
   have l0:(gh M[i])[0]?=some (.str M[i].1):=rfl;have l1:(gh M[i])[1]?=some (.str M[i].2):=rfl;simp only[bD,ah,af,az,gS,ar,aHN,l0,l1,aw,P];have w:aZ [.str [],.str []] [(0,1,.str (M[i].1.drop 1)),(1,1,.str M[i].2)] j=.ok (.agg (gh (zy M[i]))) j:=rfl;rw[w,af];refine xv 32 oS uM (λq hq=>⟨acI,acI⟩) uM hn rfl rfl rfl rfl (by rw[oK,aIx,aHZ];omega) ?_;intro v' sB FB oB kB z;have gB:(St.set j c.nx (.cells (CV.agg (gh (zy M[i]))).cK 82 false)).m.g s.nx=_:=(ak _ _ _ _ uM).trans gS;rw[gB];simp only[ar,l0,l1,aw];refine⟨⟨⟨afp,afp⟩,⟨afp,afp⟩,afp⟩,⟨afp,afp⟩,?_⟩
   have Q:jx ((M.take i).map zy)++(CV.agg (gh (zy M[i]))).cK=jx ((M.take (i+1)).map zy):=by
    rw[aIa hc,aIQ,uR];rfl
   rw[Q]at oB;rw[gJ i uM,af];refine next (fu-1) _ _ uM ⟨i+1,v',FB,uM,rfl,((v.trans kA wb).trans kS wb).trans kB λq hq=>.inr ?_,oB,λq hq=>⟨?_,(z q hq).2⟩⟩
   .rcases aHJ.1 hq with h|h
    .omega
    .exact(hF q h).1
   .rcases(z q hq).1 with h|h
    .exact(hF q h).1
    .omega
  .rw[aHL hc,aHM xI];rw[aHS uM]at e;exact⟨x,rfl,X.trans v wb,e.sl λb w=>⟨wb,(hF b w).2⟩⟩
end
section
variable {κ τ:Nat} {π:PI} {st st':St} {L Lk:List aW} {T N fr:Nat}
def vf (κ τ:Nat)(π:PI)(s:St)(Lk:List aW)(T N fr:Nat):Prop:=nO 0 τ π s Lk Lk T N fr/\s.m.g κ=some (UQ τ N)/\κ<s.nx/\κ∉own τ π
def vf.at' {s:St}(h:vf κ τ π s Lk T N fr):pB κ τ π s Lk Lk T N fr:=⟨h.1.t2,h.2.1,h.2.2.1,h.2.2.2⟩
def Qh {b:GM}(f:Pg π st b)(j:eA st)(i:ib π st b T)(m:fC b Lk)(k:Calm π.D)(g:π.D.aq.length=N)(v:N<=100000):
 R 78 [.ptr π.a 0,.ptr π.p 0,I 0] st λy s=>∃κ τ,y=.tuple [.ptr κ 0,I 0]/\Kp [] st s/\st.nx<=κ/\st.nx<=τ/\vf κ τ π s Lk T N b.cD:=by
 refine bK ?_;rw[w78];have u:aj .neq (some .int) true (I 0) (.int .i64 0) st=.ok (.bool false) st:=rfl;rw[u,af,ag,aHM xI];refine(aei f j i m k g).mono ?_;rintro _ s1 ⟨τ,rfl,n,e,c⟩;refine(aej c.t2).same ?_
 have o:aj .quo none true (I N) (.int .i64 8) s1=.ok (I ((N/8:Nat):Int)) s1:=by
  have r:aj .quo none true (I N) (.int .i64 8) s1=.ok (I (IntKind.i64.wrap (Int.tdiv (N:Int) 8))) s1:=rfl;have q:Int.tdiv (N:Int) 8=((N/8:Nat):Int):=rfl;rw[r,q,bA uM]
 have l:aZ [.bq,.int .i64 0] [(0,1,.ptr τ 0),(1,1,I ((N/8:Nat):Int))] s1=.ok (.agg [.ptr τ 0,I ((N/8:Nat):Int)]) s1:=rfl;rw[o,af,l,af,bS];refine⟨rfl,?_⟩;rw[aT];have d:Kp [] s1 (St.new s1 (UQ τ N)):=(Kp.refl [] s1).new _;have n1:=e.nx;exact⟨s1.nx,τ,rfl,e.trans d wb,uM,n,c.still d,au _ _,aKx _,λhh=>by have:=c.t2.sR _ hh;omega⟩
def Iv {a n:Nat}{F:List Nat}(H:64<=n)(G:n<=8000)(v:cQ st a F (mH (List.replicate n lO)))(m:eA st)(z:∀b∈F,b<st.nx):
 R 30 [.ptr a 0] st λy s=>∃κ τ π,y=.tuple [.ptr κ 0,I 0]/\π.a=a/\Kp F st s/\(∀b∈κ::own τ π,b∈F\/st.nx<=b)/\vf κ τ π s [] 0 n (n-2-n/4)/\π.D.set=false:=by
 refine bK ?_;rw[w30];have g:(mH (List.replicate n lO)).aq.length=n:=by show(List.replicate n lO).length=n;simp
 have u:∀i,i<(mH (List.replicate n lO)).aq.length->(mH (List.replicate n lO)).cur i=lO:=λi hi=>by
  rw[g]at hi;unfold aU.cur;rw[show(mH (List.replicate n lO)).waits=[]from rfl,vE];show(List.replicate n lO).getD i []=lO;simp[aJy,hi]
 refine(Oi v m ⟨rfl⟩ rfl rfl uM u).mono ?_;rintro _ s2 ⟨π,rfl,rfl,k,l,d,B,J,w,c,⟨r,f,E⟩,A⟩;rw[g]at k l;rw[aD,af,aI,aD,af];refine(Qh k (d.fresh m) l (aec _ uM uM) w (c.trans g) uM).mono ?_;rintro _ C ⟨κ,τ,rfl,o,q,p,j⟩;rw[aD,af,aI,aD,af];have n2:=d.nx;refine⟨κ,τ,π,rfl,rfl,d.trans o wb,λb x=>?_,?_,A⟩
 rotate_left
 .have e:(GM0 (n-1-n/4)).cD=n-2-n/4:=by unfold GM.cD GM0;simp;omega
  rw[e]at j;exact j
 rcases aHJ.1 x with h|h
 .right;omega
 .unfold own at h;rw[f]at h;rcases aHJ.1 h with h|h
  .right;omega
  .rcases aHT.1 h with h|h
   .have h:b=r:=by simpa using h
    right;omega
   .exact B b h
def SR (a:Nat)(F:List Nat)(Lk:List aW)(T N:Nat)(f:Bool)(st:St)(y:CV)(s:St):Prop:=∃d e c fr',y=.tuple [.ptr d 0,I 0]/\c.a=a/\Kp F st s/\(∀b∈d::own e c,b∈F\/st.nx<=b)/\vf d e c s Lk T N fr'/\c.D.set=f
def EK {a:Nat}{F:List Nat}{c:Bool}{P:St->Prop}(h:R 23 [.ptr a 0] st λv s=>FK a F Lk T N c st v s\/(v=.tuple [.bq,I 20]/\P s))(G:N<=100000):R 37 [.ptr a 0] st λy s=>SR a F Lk T N c st y s\/(y=.tuple [.bq,I 20]/\P s):=by
 refine bK ?_;rw[w37];refine h.mono ?_;rintro _ r (⟨f,M,rfl,d,i,j,m,l,k,p,u,o,⟨w,n,C⟩,q⟩|⟨rfl,E⟩)
 .rw[aD,af,aI,aD,af,<-d];refine(Qh i j m l k p G).mono ?_;rintro _ J ⟨g,e,rfl,z,B,A,x⟩;rw[aD,af,aI,aD,af];have K:=u.nx;refine .inl ⟨g,e,f,_,rfl,rfl,by rw[d]at*;exact u.trans z wb,λb D=>?_,x,q⟩;rcases aHJ.1 D with h|h
  .right;omega
  .unfold own at h;rw[n]at h;rcases aHJ.1 h with h|h
   .right;omega
   .rcases aHT.1 h with h|h
    .have h:b=w:=by simpa using h
     right;omega
    .exact o b h
 .rw[aD,af,aI,aD,af];refine bK ?_;rw[w78];have H:aj .neq (some .int) true (I 20) (.int .i64 0) r=.ok (.bool true) r:=rfl;rw[H,af,ag,aHP rfl,aD,af,aI,aD,af];exact .inr ⟨rfl,E⟩
def Qq (h:pB κ τ π st L Lk T N fr):R 76 [.ptr κ 0] st λy s=>y=I ((N/8:Nat):Int)/\s=st:=by
 refine bK ?_;rw[w76,cc,af,ag,aHM xI];unfold eQ;rw[bj,af,ah,af,az,h.get];exact⟨rfl,rfl⟩
def Qo {L:List aW}(k:Small L)(cs:List jI):∀m:xD,(∀p n,ry m p=some n->n<=8192)->(∀c∈cs,c.ok)->kz L m cs<=96*cs.length:=by
 induction cs with
 |nil=>intro m _ _;exact aJL _
 |cons c r g=>
  intro m b e;have f:=e c wb
  have i:sF L m c.nm<=8192:=by
   unfold sF;cases hg:ry m c.nm with
   |none=>exact k.get _
   |some w=>exact b _ _ hg
  have h1:=g (vu m c.nm c.val.length) (λp n a=>by
   rw[Hf]at a
   split at a
   .cases a;exact f.2.1
   .exact b _ _ a) λd j=>e d (by simp[j])
  have p1:=lD f.2.1;have p2:=lD i;rw[aIg];show(24+2*bN c.val.length+2*bN (sF L m c.nm))+kz L (vu m c.nm c.val.length) r<=_;omega
end
section
variable {κ τ:Nat} {π:PI} {st st':St} {L Lk:List aW} {T N fr:Nat}
def Ny (L:List aW)(c:jI):kz L [] [c]=24+2*bN c.val.length+2*bN ((iE L (je c.nm)).getD []).length:=rfl
def J7 (L:List aW)(m:xD)(c:jI)(r:List jI):24+2*bN c.val.length<=kz L m (c::r):=by
 show _<=(24+2*bN c.val.length+2*bN (sF L m c.nm))+kz L (vu m c.nm c.val.length) r;omega
def MM (h:vf κ τ π st L T N fr)(M:π.D.set=false)(H:Small L)(V:T<=900000000)(W:N<=4000){v:CV}{cs:List jI}(G:Sl st (own τ π) v 4 (l4 cs))(NZ:cs≠[])(C:∀c∈cs,c.ok/\c.gone=false)(Cr:kz L [] cs<=fr)(Z7:kz L [] cs<=N/8)
 (o:cs.length=1\/(cs.length<=100/\60*cs.length<=N/8/\100*cs.length<=fr)):
 R 31 [.ptr κ 0,v] st λy s=>y=I 0/\∃d fr',d.a=π.a/\nD τ π d st s/\pB κ τ d s (jW L cs) (jW L cs) (T+10000) N fr'/\Small (jW L cs)/\d.D.set=false:=by
 have J:=h.at';have jH:=J.tr.Fs;have n:cs.length<=5000:=uM
 refine IG J H (G.eH wb) n (λ⟨c,j,q⟩=>absurd (C c j).1 q) (λ_ q=>uM) (λe=>absurd e NZ)
  (λi s=>Kp (own τ π) st s/\Small (jW L (cs.take i))/\∃f c,nO c τ π s (jW L (cs.take i)) L T N f/\c<=59*i/\fr<=f+36*i/\(cs.length=1->i=1->c<=N/8)) (λ_=>False) (λ_=>False) ?_ ?_ ?_ ?_ ?_ ?_ ?_ ?_ ?_ uM uM
 .rintro i s ⟨k,_⟩;exact⟨(k.keep κ h.2.2.1 h.2.2.2).trans h.2.1,(G.mono k).eH wb⟩
 .rintro s ⟨⟩
 .rintro s ⟨⟩
 .rintro i s s' ⟨k,a,f,c,t,r⟩ l;exact⟨k.trans l wb,a,f,c,t.still l,r⟩
 .intro _ _ _ s k;exact⟨k.mono wb,H,_,_,h.1.still k,aHK _,uM,λ_ e=>uM⟩
 .rintro i hi s _ ⟨k,a,f,c,t,Tx,Mv,_⟩;obtain⟨j,A⟩:=C _ (aIc hi);have O:=a.do j;rw[<-mG L cs i hi]at O;have eD:=mG L cs i hi;have hg:=(k.keep κ h.2.2.1 h.2.2.2).trans h.2.1;refine Yf hg (aId h.2.2.1 k.nx) j (λ_ s2 l=>?_) (λF=>by rw[A]at F;cases F);refine(aed (t.still l) W (je cs[i].nm) cs[i].val).mono ?_;intro y s3 E;unfold abP at E;obtain⟨⟨w,_⟩,rfl,Z,u,U⟩:=E;have Q:=LG j.1;have m:=j.2.1;have p1:=lD m;have p2:=lD (a.get (je cs[i].nm));rw[WD Q m]at u
  have B:¬f<24+bN cs[i].val.length:=by
   rcases o with g|⟨_,_,K⟩
   .have:i=0:=by omega
    subst this
    have e:cs=cs[0]::cs.drop 1:=by
     have:=aIe hi
     simpa using this
    have hh:=J7 L [] cs[0] (cs.drop 1);rw[<-e]at hh;omega
   .omega
  rw[aHM B]at u;rw[aHM uM,aHM B];refine .inl ⟨rfl,(k.trans l wb).trans w afk,O,Z,c+bN ((iE (jW L (cs.take i)) (je cs[i].nm)).getD []).length+bN cs[i].val.length+23,?_,uM,uM,λg Y=>?_⟩
  .rw[eD];unfold Fx;rw[aHM (by simp[A])];exact u
  .have:i=0:=by omega
   subst this
   have e:cs=[cs[0]]:=by
    have:=aIe hi;rw[aIn,aIp uM]at this;exact this
   have K:=Ny L cs[0];rw[<-e]at K;have X:jW L (cs.take 0)=L:=rfl;rw[X];omega
 .rintro s _ ⟨k,a,f,c,t,Tx,Mv,x⟩;rw[aHS (aHK _)]at a t;refine(Gi t V uM).mono ?_;rintro _ s2 (⟨rfl,_,VG⟩|⟨rfl,d,ea,⟨w,Z1⟩,S,p⟩|⟨rfl,_,p,_⟩)
  .exfalso;rcases o with g|⟨_,Y,_⟩
   .have:=x g g;omega
   .omega
  .have z:=k.trans w afk;have P:=λb q=>(Z1 b q).imp id λh=>aIz k.nx h;refine .inl ⟨rfl,rfl,d,_,ea,⟨z,P⟩,⟨S.t2,(z.keep κ h.2.2.1 h.2.2.2).trans h.2.1,aId h.2.2.1 z.nx,λhh=>?_⟩,a,p.trans M⟩;rcases P κ hh with g|g
   .exact h.2.2.2 g
   .have:=h.2.2.1;omega
  .rw[M]at p;cases p
 .rintro s ⟨⟩
 .rintro s ⟨⟩
end
section
variable {st st':St}
def aV:List UInt8:=List.replicate 100 0
def cA:jI:=⟨1,[97],aV,false⟩
def cB:jI:=⟨1,[98],[120],false⟩
def cX:jI:=⟨1,[97],[120],false⟩
def vV:aV.length=100:=aIF
def SF (x y:jI)(s:St):bC 159 2 (cH 2 [.int .i64 0,.str [],.str [],.bool false]) [(0,4,.agg (qi x)),(4,4,.agg (qi y))] s=.ok (.slice s.nx 0 2 2 0) (St.new s (.cells (l4 [x,y]) 159 false)):=rfl
def sl2 {s:St}{b:Nat}{cs:List jI}{X:List Nat}{t:TypeId}(h:s.m.g b=some (.cells (l4 cs) t false))(c:b<s.nx)(a:b∉X):Sl s X (.slice b 0 cs.length cs.length 0) 4 (l4 cs):=
 .inr ⟨b,0,_,_,0,rfl,pe cs,⟨aHK _,.inl rfl⟩,.inr ⟨a,c,_,_,_,h,by rw[pe];omega,by rw[aIn,aHS (by rw[pe];omega)]⟩⟩
def Nu (v:List UInt8)(k:bY)(sp:Int)(c:0<=sp/\sp<256)(b:k.length<=47)(a:v.length<=8192):(jI.mk sp k v false).ok:=⟨⟨c,b⟩,a,λh=>by cases h⟩
def SU:List aW:=jW [] [cA,cB]
def BC:SU=[([1,97],aV),([1,98],[120])]:=by
 have b:dO [1,97] [1,98]:=xI
 have a:¬dO ([1,98]:bY) [1,97]:=xI
 show nt (nt [] [1,97] aV) [1,98] [120]=_;unfold nt;simp[b,a]
def OJ:xZ SU 1 [97] [98]=[([97],aV)]:=by
 have b:Br (je (1,[97])) (qL 1 [98]) ([1,97],aV)=true:=by rw[FC];decide
 have a:Br (je (1,[97])) (qL 1 [98]) ([1,98],[120])=false:=by rw[FC];decide
 unfold xZ;rw[BC,aJa,b,aHP rfl,aJa,a,aHM xI,List.filter_nil]
 rfl
def Y3:kz SU [] [cX,cA]=52:=by
 have b:sF SU [] cX.nm=100:=by
  unfold sF;rw[show iE SU (je cX.nm)=some aV by rw[BC];rfl];exact vV
 have a:sF SU (vu [] cX.nm cX.val.length) cA.nm=1:=rfl;show(24+2*bN 1+2*bN (sF SU [] cX.nm))+((24+2*bN aV.length+2*bN (sF SU (vu [] cX.nm cX.val.length) cA.nm))+0)=52;rw[b,a,vV];rfl
def Ux (p:aW)(s:St):aj .eql (some (.struct (.cons 0 1 false .str (.cons 1 1 false .str .nil)))) false (.agg (gh p)) (.agg (gh p)) s=.ok (.bool true) s:=by
 rw[rq]
 have:mJ (.struct (.cons 0 1 false .str (.cons 1 1 false .str .nil))) (.agg (gh p)) (.agg (gh p))=some true:=by
  unfold gh;simp[mJ,Bq,iY,andThen]
 rw[this];rfl
set_option maxHeartbeats 1000000 in
def zK (hf:eA st):R 27 [] st λy s=>y=.bool true/\Kp [] st s:=by
 refine bK ?_;rw[w27];refine(show R 29 [.int .i64 2000] st _ from Qn (n:=2000) uM uM).mono ?_;rintro _ s1 ⟨L,a,F,rfl,hd,hF⟩;have X:∀s,aj .neq (some .int) true (I 0) (.int .i64 0) s=.ok (.bool false) s:=λs=>rfl;rw[aD,af,aI,aD,af,X,af,ag,aHM xI];refine(Iv (n:=2000) uM uM hd (L.fresh hf) hd.lt).mono ?_;rintro _ s2 ⟨z,τ,π,rfl,rfl,k2,w9,f,fo⟩;have n1:=L.nx
 have Du:∀b∈z::own τ π,st.nx<=b:=λb T=>by
  rcases w9 b T with h|h
  .exact hF b h
  .omega
 have K2:=L.trans k2 λq hq=>.inr (hF q hq);rw[aD,af,aI,aD,af,X,af,aG];simp only[aHH,aHV,aHY,ba,af,dI];refine(Qq f.at').same ?_;have em:aj .neq (some .int) true (I ((2000/8:Nat):Int)) (.int .i64 250) s2=.ok (.bool false) s2:=rfl;have V:qD 5 1 [.int .u8 0] (.int .i64 100) (.int .i64 100) s2=.ok (.slice s2.nx 0 100 100 0) (St.new s2 (.cells (ai aV) 5 false)):=Az (n:=100) uM s2;rw[em,af,aF,aHM xI,af,ag,aHM xI,V,aP];have K:Kp [] s2 (St.new s2 (.cells (ai aV) 5 false)):=(Kp.refl [] s2).new _;have g3:(St.new s2 (.cells (ai aV) 5 false)).m.g s2.nx=some (.cells (ai aV) 5 false):=au _ _;have n3:(St.new s2 (.cells (ai aV) 5 false)).nx=s2.nx+1:=rfl;generalize St.new s2 (.cells (ai aV) 5 false)=s3 at*;have A:Sl s3 [] (.slice s2.nx 0 100 100 0) 1 (ai aV):=.inr ⟨s2.nx,0,100,100,0,rfl,by rw[bF,vV],⟨aHK _,.inl rfl⟩,.inr ⟨wb,uM,_,_,_,g3,by rw[bF,vV];omega,by rw[aIn,aHS (by rw[bF,vV];omega)]⟩⟩;have v:∀s,aZ [.int .i64 0,.str [],.str [],.bool false] [(0,1,.int .i64 1),(1,1,.str [97]),(2,1,.str aV)] s=.ok (.agg (qi cA)) s:=λs=>rfl;have S:∀s,aZ [.int .i64 0,.str [],.str [],.bool false] [(0,1,.int .i64 1),(1,1,.str [98]),(2,1,.str [120])] s=.ok (.agg (qi cB)) s:=λs=>rfl;have Q:∀s,aZ [.int .i64 0,.str [],.str [],.bool false] [(0,1,.int .i64 1),(1,1,.str [97]),(2,1,.str [120])] s=.ok (.agg (qi cX)) s:=λs=>rfl;rw[A.str,af,v,af,S,af,SF,aP];have J:Kp [] s3 (St.new s3 (.cells (l4 [cA,cB]) 159 false)):=(Kp.refl [] s3).new _;have g4:(St.new s3 (.cells (l4 [cA,cB]) 159 false)).m.g s3.nx=some (.cells (l4 [cA,cB]) 159 false):=au _ _;have n4:(St.new s3 (.cells (l4 [cA,cB]) 159 false)).nx=s3.nx+1:=rfl;generalize St.new s3 (.cells (l4 [cA,cB]) 159 false)=s4 at*;have G:vf z τ π s4 [] 0 2000 (2000-2-2000/4):=⟨(f.1.still K).still J,((J.keep z (by have:=f.2.2.1;omega) wb).trans (K.keep z f.2.2.1 wb)).trans f.2.1,by have:=f.2.2.1;omega,f.2.2.2⟩
 have O:=f.1.t2.sR;have X0:Small []:=λp hp=>by simp at hp
 have w:∀c∈[cA,cB],c.ok/\c.gone=false:=λc d=>by
  have U:=vV;rcases aHJ.1 d with rfl|d
  .exact⟨Nu _ _ _ uM xI uM,rfl⟩
  .have:c=cB:=by simpa using d
   subst this;exact⟨Nu _ _ _ uM xI xI,rfl⟩
 have al:kz [] [] [cA,cB]<=192:=Qo X0 [cA,cB] [] (λp n h=>by simp[ry]at h) λc d=>(w c d).1;have U:=vV;refine(MM G fo X0 uM uM (sl2 (cs:=[cA,cB]) g4 uM λhh=>by have:=O _ hh;omega) wb w uM uM (.inr ⟨xI,xI,xI⟩)).mono ?_;rintro _ e ⟨rfl,ad,an,W,⟨H,M⟩,u,l,aa⟩;have K4:=(K2.trans K wb).trans J wb;have K6:=K4.trans H λq hq=>.inr (Du q aaa);rw[show jW [] [cA,cB]=SU from rfl]at u l;rw[Q,af,v,af,SF,aP];have k7:Kp [] e (St.new e (.cells (l4 [cX,cA]) 159 false)):=(Kp.refl [] e).new _;have g7:(St.new e (.cells (l4 [cX,cA]) 159 false)).m.g e.nx=some (.cells (l4 [cX,cA]) 159 false):=au _ _;have n7:(St.new e (.cells (l4 [cX,cA]) 159 false)).nx=e.nx+1:=rfl;generalize St.new e (.cells (l4 [cX,cA]) 159 false)=s7 at*;have r:=u.still k7;refine(J8 r l (sl2 (cs:=[cX,cA]) g7 uM wb) xI).mono ?_;rintro _ s8 ⟨k8,⟨_,rfl⟩|⟨⟨c,d,T⟩,_⟩⟩
 .rw[Y3,aD,af,aI,aD,af];have E:=r.still k8;rw[<-W];refine(EK (Pk E.tr uM) uM).mono ?_;rintro _ s9 (⟨ae,ab,ac,am,rfl,_,k9,_,Z,_⟩|⟨_,_,hx,_⟩)
  rotate_left
  .rw[aa]at hx;cases hx
  have o:=Z.at';have K8:=(K6.trans k7 wb).trans k8 wb;have ak:=K4.nx
  have K9:=K8.trans k9 λq hq=>.inr (by
   rcases M q (kj (by unfold PI.all;simp[hq]))with h|h
   .exact Du q aaX
   .omega)
  rw[aD,af,aI,aD,af,X,af,ag,aHM xI];refine(RT o (p:=(1,[97])) ⟨xI,xI⟩).mono ?_;rintro _ ah ⟨oq,rfl⟩;have x:=o.still oq;refine(RT x (p:=(2,[97])) ⟨xI,xI⟩).mono ?_;rintro _ dQ ⟨nK,rfl⟩;have Y:=x.still nK;refine(Lv Y (sp:=1) (fm:=[97]) (to:=[98]) ⟨xI,xI⟩ ⟨xI,xI⟩ (by rw[BC];decide)).mono ?_;rintro _ j ⟨jB,rfl,nJ,k⟩;rw[OJ]at k;have gA:iE SU (je (1,[97]))=some aV:=by rw[BC];rfl
  have g2:iE SU (je (2,[97]))=none:=by rw[BC];rfl
  rw[gA,g2];have q0:∀s,aj .eql (some .int) true (I 0) (.int .i64 0) s=.ok (.bool true) s:=λs=>rfl;have D:∀s,aj .eql (some .int) true (I ((52:Nat):Int)) (.int .i64 52) s=.ok (.bool true) s:=λs=>rfl;have qs:∀s,aj .eql (some .str) false (.str aV) (.str aV) s=.ok (.bool true) s:=λs=>by rw[ep,mT,aHQ rfl]
  have N:=k.len 1 (by rw[oK];rfl) uM j;have q1:∀s,aj .eql (some .int) true (I ((1:Nat):Int)) (.int .i64 1) s=.ok (.bool true) s:=λs=>rfl;obtain⟨b,p,r1,r2⟩:=k.aeK (i:=0) xI;have C:cV 2 jB (.int .i64 0) j=.ok (.ptr b p) j:=r1 j;have B:aJ 2 (.ptr b p) j=.ok (.agg (gh ([97],aV))) j:=r2;have P:aZ [.str [],.str []] [(0,1,.str [97]),(1,1,.str aV)] j=.ok (.agg (gh ([97],aV))) j:=rfl;simp only[aD,aI,af,q0,aG,aIj,ba,aF,D,aKj,aKk,aJg,qs,cR,aHY,N,q1,C,B,P,Ux];exact⟨afp,((K9.trans oq wb).trans nK wb).trans nJ wb⟩
 .exfalso;apply T;rcases aHJ.1 d with rfl|d
  .exact Nu _ _ _ uM xI xI
  .have:c=cA:=by simpa using d
   subst this;exact Nu _ _ _ uM xI uM
end
section
variable {v:CV}{cs:List jI}{S:List (List jI)}{i:Nat}
def rV (st:St)(v:CV)(cs:List jI):Prop:=((v=.ae\/v=.mr)/\cs=[])\/∃b off cap,v=.slice b off cs.length cap 0/\b<st.nx/\∀i (h:i<cs.length),∃l o,st.m.g b=some (.ro l o)/\∀j x,(qi cs[i])[j]?=some x->l[off+i*4+j]?=some x
def OL (st:St)(v:CV)(S:List (List jI)):Prop:=((v=.ae\/v=.mr)/\S=[])\/∃b off cap,v=.slice b off S.length cap 0/\b<st.nx/\∀i (h:i<S.length),∃l o u,st.m.g b=some (.ro l o)/\l[off+i*5+1]?=some u/\rV st u S[i]
section
variable {st st':St}
def rV.keep (h:rV st v cs)(a:Kp [] st st'):rV st' v cs:=by
 rcases h with h|⟨b,off,cap,rfl,c,d⟩
 .exact .inl h
 .refine .inr ⟨b,off,cap,rfl,aId c a.nx,λi hi=>?_⟩;obtain⟨l,o,f,e⟩:=d i hi;exact⟨l,o,(a.keep b c wb).trans f,e⟩
def rV.len (h:rV st v cs)(s:St):bt .slice v s=.ok (I cs.length) s:=by
 rcases h with⟨rfl|rfl,rfl⟩|⟨b,off,cap,rfl,_⟩<;>rfl
def OL.len (h:OL st v S)(s:St):bt .slice v s=.ok (I S.length) s:=by
 rcases h with⟨rfl|rfl,rfl⟩|⟨b,off,cap,rfl,_⟩<;>rfl
def rV.at' (h:rV st v cs)(hi:i<cs.length):∃b p l o,(∀s,cV 4 v (I i) s=.ok (.ptr b p) s)/\st.m.g b=some (.ro l o)/\∀j x,(qi cs[i])[j]?=some x->l[p+j]?=some x:=by
 rcases h with⟨_,rfl⟩|⟨b,off,cap,rfl,c,a⟩
 .simp at hi
 .obtain⟨l,o,h1,h2⟩:=a i hi;exact⟨b,off+i*4,l,o,λs=>gp hi (.inl rfl) s,h1,h2⟩
def OL.at' (h:OL st v S)(hi:i<S.length):∃b p l o u,(∀s,cV 5 v (I i) s=.ok (.ptr b p) s)/\st.m.g b=some (.ro l o)/\l[p+1]?=some u/\rV st u S[i]:=by
 rcases h with⟨_,rfl⟩|⟨b,off,cap,rfl,c,a⟩
 .simp at hi
 .obtain⟨l,o,u,h1,h2,h3⟩:=a i hi;exact⟨b,off+i*5,l,o,u,λs=>gp hi (.inl rfl) s,h1,h2,h3⟩
def jI.size (c:jI):Nat:=c.key.length+c.val.length
def ajd (S:List (List jI))(st:St)(y:CV)(s:St):Prop:=∃b,y=.bool b/\s=st/\(b=false->S.length<=40/\∀cs∈S,cs.length<=4000)
def UP (h:OL st v S)(hl:S.length<=9223372036854775807)(Z:∀cs∈S,cs.length<=140737488355328/\∀c∈cs,c.size<=281474976710656):R 26 [v] st (ajd S st):=by
 refine bK ?_;rw[w26,h.len,af,cM];simp only[aK,aL];have E:∀(a b:Int) s,aj .add none false (I a) (I b) s=.ok (I (IntKind.i64.wrap (a+b))) s:=λa b s=>by rw[av,cI]
 have Q:∀(i n:Nat) s,aj .lss none false (I i) (I n) s=.ok (.bool (decide (i<n))) s:=λi n s=>aaI
 have g:∀(i:Nat) s,aj .lss none true (I i) (.int .i64 100) s=.ok (.bool (decide (i<100))) s:=λi s=>aaI
 have f:∀(i n:Nat) s (A B:Prop),(i<n->i<100->A)->(¬(i<n/\i<100)->B)->us (br (ao true (.bool (decide (i<n)))) s (.ok (I i) s)) λU=>us (br (ao true (.bool (decide (i<n)))) s (aj .lss none true U (.int .i64 100) s)) λT=>us (bk (.bool (decide (i<n))) T (.bool false) s) λdn=>aC dn A B:=by
  intro i n s A B hA N
  by_cases e:i<n
  .by_cases h2:i<100
   .simp only[aHQ e,aG,aIj,ba,af,g,aHQ h2,aF,ag];exact hA e h2
   .simp only[aHQ e,aG,aIj,ba,af,g,aHL h2,aF,ag,aHH,aHV];exact N uM
  .simp only[aHL e,aG,aIj,bU,af,aF,ag,aHH,aHV];exact N uM
 refine bG (λfu j s=>∃(i:Nat) (n:Int),fu+i=100/\j=[v,I n,I i]/\s=st/\(S.length<=40->0<=n/\n<=40+i*10000000000000000/\∀cs∈S.take i,(cs.length:Int)<=n)) ?_ (n:=100) ⟨0,S.length,rfl,rfl,rfl,λh=>zS⟩;rintro fu j s K ⟨i,n,hi,rfl,rfl,x⟩ next;simp only[aK,aL];rw[h.len,af,Q,af];refine f _ _ _ _ _ (λw ab=>?_) (λw=>?_)
 .obtain⟨b,p,l,o,u,q1,q2,q3,hu⟩:=h.at' w;obtain⟨L,D⟩:=Z _ (aIc w)
  have P:∀K:CV->Prop,K u->Vb 5 1 v (I i) s K:=λK hK=>by
   unfold Vb;rw[q1,af,ah,af,az,q2,ye,q3];exact hK
  refine P _ ?_;rw[hu.len,af,E,af,cM];simp only[aK,aL]
  refine bG (λfu j s'=>∃(k:Nat) (m:Int),fu+k=100/\j=[v,I m,I i,I k]/\s'=s/\(S.length<=40->n+S[i].length<=m/\m<=n+S[i].length+k*20000000000000)) ?_ (n:=100) ⟨0,_,rfl,rfl,rfl,λd=>by
   obtain⟨C,z,_⟩:=x d;rw[bA uM];omega⟩
  rintro OY V s2 K2 ⟨k,m,hk,rfl,rfl,M⟩ AF;simp only[aK,aL];refine P _ ?_;rw[hu.len,af,Q,af];refine f _ _ _ _ _ (λy aa=>?_) (λy=>?_)
  .obtain⟨b2,p2,l2,o2,r1,r2,r3⟩:=hu.at' y;have a1:=r3 1 _ rfl;have a2:=r3 2 _ rfl;have hs:S[i][k].key.length+S[i][k].val.length<=281474976710656:=D _ (aIc y);have J:aj .add none false (I S[i][k].val.length) (I S[i][k].key.length) s2=.ok (I ((S[i][k].val.length+S[i][k].key.length:Nat):Int)) s2:=by rw[E,bA uM];congr 2
   have H:aj .quo none true (I ((S[i][k].val.length+S[i][k].key.length:Nat):Int)) (.int .i64 40) s2=.ok (I (((S[i][k].val.length+S[i][k].key.length)/40:Nat):Int)) s2:=by
    have e1:aj .quo none true (I ((S[i][k].val.length+S[i][k].key.length:Nat):Int)) (.int .i64 40) s2=.ok (I (IntKind.i64.wrap (Int.tdiv ((S[i][k].val.length+S[i][k].key.length:Nat):Int) 40))) s2:=rfl;have e2:Int.tdiv ((S[i][k].val.length+S[i][k].key.length:Nat):Int) 40=(((S[i][k].val.length+S[i][k].key.length)/40:Nat):Int):=rfl;rw[e1,e2,bA uM]
   simp only[bD,q1,af,ah,az,q2,ye,q3,aw,r1,r2,a1,a2,gQ,J,H,E];refine⟨⟨afp,afp,afp,afp,afp⟩,afp,?_⟩;rw[gJ k uM,af];refine AF (OY-1) _ _ uM ⟨k+1,_,uM,rfl,rfl,λd=>?_⟩;obtain⟨C,z,_⟩:=x d;obtain⟨X,W⟩:=M d;rw[bA uM];omega
  .rw[gJ i uM,af];refine next (fu-1) _ _ uM ⟨i+1,m,uM,rfl,rfl,λd=>?_⟩;obtain⟨C,z,r⟩:=x d;obtain⟨X,W⟩:=M d;refine⟨uM,uM,λcs q=>?_⟩;rw[aIa w,aHT]at q;rcases q with e|e
   .have:=r cs e;omega
   .have:cs=S[i]:=by simpa using e
    subst this;omega
 .have G:aj .gtr none true (I n) (.int .i64 4000) s=.ok (.bool (decide (4000<n))) s:=by rw[av,dh]
  have F:aj .gtr none true (I S.length) (.int .i64 40) s=.ok (.bool (decide (40<S.length))) s:=BT
  rw[G,af,aG]
  by_cases O:4000<n
  .simp only[aHQ O,aIb,aHH,aHV,bU,af,aF,aIj];exact⟨true,rfl,rfl,λh=>by cases h⟩
  .simp only[aHL O,aHY,aHH,aHV,ba,af,aF,h.len,F];refine⟨_,rfl,rfl,λY=>?_⟩
   have d:S.length<=40:=by have:¬40<S.length:=by simpa using Y
                           omega
   refine⟨d,λcs q=>?_⟩;obtain⟨C,z,r⟩:=x d;rw[aHS uM]at r;have:=r cs q;omega
end
end
