import Derived.Test.YtckodcbgpffimaaGreatDoorLimA
import Derived.Laws.BytesString
import Derived.IntWalk
namespace Lim
open Go
noncomputable section
set_option linter.defProp false
section
variable {P:Program} {ρ:Ren} {Z Z':O} {w:World} {v:K}
def VR.fk {b:Nat}{off len cap grow:Nat}{d:Value}(h:VR ρ (.slice b off len cap grow) d):
 ∃r sz c a,d=.slice (Φ ⟨r,c,ν⟩) len a/\ρ b=Φ (r,sz)/\(0<cap->c=off)/\cap<=a/\(grow=0->a=cap/\c=off)/\
  (0<grow->c+a*grow<=sz/\len<=cap):=by
 cases h with
 |slice _ _ _ _ r sz h=>exact⟨r,sz,off,cap,rfl,h,λ_=>rfl,hI _,λ_=>⟨rfl,rfl⟩,λh=>absurd h J⟩
 |pX _ _ c _ _ a _ r sz h hg hl hc ho hs=>exact⟨r,sz,c,a,rfl,h,ho,hc,λe=>J,λ_=>⟨hs,hl⟩⟩
def dW (size:Nat)(n:Nat)(x:K)(Z:O):υ (δ K):=
 match x with
 | .ae=>Φ []
 | .slice b off len _ grow=>bF (Nat.beq n 0) (Φ []) (bF (Bool.or (Nat.beq grow 0) (Nat.ble n len)) (match Z.m.g b with|some (.cells s _ _)=>iv s off (n*size)|some (.ro s _)=>iv s off (n*size)|_=>ν) ν)
 |_=>ν
def ng {size n:Nat}{x:K}{q:Value}{t:δ K}(h:dW size n x Z=Φ t)(F:∀e,x=.ae->e=n->e=0)(y:WR ρ Z w)(u:VR ρ x q):
 ∃i,fp ρ t i/\i.length=n*size/\∀d:World,d.heap=w.heap->(Builtin.firstCells size n q).run P d=.ok i.toArray d:=by
 unfold dW at h
 split at h
 .cases h;cases u;have:=F n rfl rfl;subst this;exact⟨[],fp.nil ρ,V,λd _=>aeF⟩
 .rename_i b off len cap grow;obtain⟨r,sz,a,L,rfl,z,D,I,f,C⟩:=u.fk;rw[aS]at h
  split at h
  .rename_i h0;simp only[md]at h0;subst h0;cases h;exact⟨[],fp.nil ρ,V,λd _=>by simp[Builtin.firstCells,loadCells,loadCellsFrom]⟩
  .rename_i h0;simp only[md]at h0;rw[aS]at h
   split at h
   .rename_i hg;simp only[xF,md,nR]at hg
    split at h
    .rename_i s ty g hm;obtain⟨c,lo,hi,e1,H,G,p,M⟩:=y.row hm z;obtain⟨o,l⟩:=ld h
     have k:a=off:=by
      rcases hg with hg|hg
      .exact(f hg).2
      .by_cases j:grow=0
       .exact(f j).2
       .have:=(C J).2;exact D J
     subst k;have m:=o;refine⟨(c.toList.drop a).take (n*size),?_,xI,λd LY=>?_⟩
     .rw[show t=(s.drop a).take (n*size)from l]
      have e:(c.toList.drop a).take (n*size)=((c.toList.take s.length).drop a).take (n*size):=by
       rw[St,AQ,us J]
      rw[e];exact(p.drop a).take _
     .exact eE P d r a (n*size) c ty (lo,hi) afB J
    .rename_i s o0 hm;obtain⟨c,ty,lo,hi,e1,H,G,p⟩:=y.RD hm z;obtain⟨o,l⟩:=ld h
     have k:a=off:=by
      rcases hg with hg|hg
      .exact(f hg).2
      .by_cases j:grow=0
       .exact(f j).2
       .have:=(C J).2;exact D J
     subst k;have m:=o;refine⟨(c.toList.drop a).take (n*size),?_,xI,λd LY=>?_⟩
     .rw[show t=(s.drop a).take (n*size)from l]
      have e:(c.toList.drop a).take (n*size)=((c.toList.take s.length).drop a).take (n*size):=by
       rw[St,AQ,us J]
      rw[e];exact(p.drop a).take _
     .exact eE P d r a (n*size) c ty (lo,hi) afB J
    .cases h
   .cases h
 .cases h
inductive ET where
 |toInt (k:IntKind)
 |same
 |bytesOf (e:TypeId)
 |strOf
def cX (c:ET)(x:K)(Z:O):OR:=
 match c,x with
 | .toInt k,.int _ n=>.ok (.int k (k.wrap n)) Z
 | .same,.str l=>.ok (.str l) Z
 | .bytesOf e,.str l=>.ok (.slice Z.nx 0 l.length l.length 1) ⟨Z.m.put Z.nx (Φ (.cells (l.map bG) e θ)),Z.nx+1⟩
 | .strOf,.ae=>.ok (.str []) Z
 | .strOf,.slice b off len cap grow=>(match dW 1 len (.slice b off len cap grow) Z with
   |some t=>(match Ka t with|some l=>.ok (.str l) Z|none=>.bad)
   |_=>.bad)
 |_,_=>.bad
def JB (P:Program)(c:ET)(a b:TypeId):Prop:=
 match c with
 | .toInt k=>P.underlying b=Φ (.int k)/\∃d,P.underlying a=Φ d
 | .same=>P.underlying b=Φ .string/\P.underlying a=Φ .string
 | .bytesOf e=>P.underlying b=Φ (.slice e)/\P.underlying e=Φ (.int .u8)/\P.underlying a=Φ .string
 | .strOf=>∃e,P.underlying a=Φ (.slice e)/\P.underlying e=Φ (.int .u8)/\P.underlying b=Φ .string
def My (l:δ Int):∀s:ByteArray,l.foldl (λr n=>r.push (UInt8.ofNat n.toNat)) s=⟨s.data++(l.map λn=>UInt8.ofNat n.toNat).toArray⟩:=by
 induction l with
 |nil=>intro s;simp
 |cons a l b=>
  intro s;rw[List.foldl_cons,b]
  congr 1
  apply Array.ext';simp[ByteArray.push]
def MH {l:δ Γ}{a:δ Value}(h:fp ρ (l.map bG) a):a=(l.map λx:Γ=>(x.toNat:Int)).map (Value.int .u8):=by
 have:=(VR.GN h).vH;simp only[Value.agg.injEq]at this;have:=congrArg Array.toList this;simp only[]at this;rw[this,Xf];rfl
def Is {c:ET}{g j:TypeId}{x:K}{z:Value}(h:cX c x Z=.ok v Z')(m:WR ρ Z w)(n:VR ρ x z)(p:JB P c g j):
 bH P (convert g j z) ρ Z w v Z':=by
 unfold cX at h
 split at h
 .obtain⟨f,d,a⟩:=p;cases h;cases n;refine bH.still m ?_ (.int _ _);simp only[convert,Ψ,kn a,kn f,Ξ];cases d<;>simp[Conv.intToInt]
 .obtain⟨f,a⟩:=p;cases h;cases n;refine bH.still m ?_ (.str _);simp[convert,kn a,kn f]
 .rename_i e l;obtain⟨f,a,q⟩:=p;cases h;cases n
  let cap:=(Question.appendCap l.length 0 e).cut (w.tape w.drawn (.appendCap l.length 0 e))
  have F:l.length<=cap:=by show l.length<=l.length+_;omega
  let o:Obj:=.cells (((iI l).data.map λb=>Value.int .u8 b.toNat)++Array.replicate (cap-l.length) (.int .u8 0)) e (cap,cap+1)
  have G:((iI l).data.map λb=>Value.int .u8 b.toNat).toList=(l.map λx:Γ=>Value.int .u8 (x.toNat:Int)):=by
   simp[iI]
  have i:(((iI l).data.map λb=>Value.int .u8 b.toNat)++Array.replicate (cap-l.length) (Value.int .u8 0)).size=cap:=by
   have:(iI l).data.size=l.length:=lY l;simp[this];omega
  have L:∀ρ,BR ρ (.cells (l.map bG) e θ) o cap:=λρ=>by
   have hs:(l.map bG).length=l.length:=V
   have:=BR.cells (ρ:=ρ) (l.map bG) e θ (((iI l).data.map λb=>Value.int .u8 b.toNat)++Array.replicate (cap-l.length) (.int .u8 0)) cap (cap+1) (by rw[hs,i];exact F)
    (by
     rw[Array.toList_append,G,hs];rw[SM V];exact fp.bytes ρ l)
    (λk s=>by rw[i]at s;omega) (λh=>by cases h)
   rw[i]at this;exact this
  have C:=br.new (m.Gw (w':={w with drawn:=w.drawn+1}) rfl) (L (ρ.set Z.nx (w.heap.size,cap)));have I:=br.draw m (w.drawn+1);refine⟨.slice (Φ ⟨w.heap.size,0,ν⟩) l.length cap,_,_,?_,.pX _ _ 0 _ _ cap 1 _ _ C.2 J (hI _) F (λ_=>rfl) J,I.trans C.1⟩;have hs:=lY l;simp only[convert,Ψ,kn q,kn f,kn a,Ξ,Conv.stringToBytes,run_choose,hs];simp only[Question.forced,pi,ii,Ξ,newRow,Ψ,run_newObj,Ω]
  have u:({heap:=w.heap.push (.cells (((iI l).data.map λb=>Value.int .u8 b.toNat)++Array.replicate (cap-l.length) (.int .u8 0)) e),tape:=w.tape,drawn:=w.drawn+1,os:=w.os,output:=w.output}:World).shape? w.heap.size=Φ (e,cap):=by
   simp only[World.shape?,Array.getElem?_push_size,i]
  simp only[markStringish,Ψ,run_shape,Ξ];rw[show(Question.appendCap l.length 0 e).cut (w.tape w.drawn (Question.appendCap l.length 0 e))=cap from rfl,u];simp only[run_freeze,Ξ]
  congr 1
  simp only[World.freeze,Nat.succ_ne_zero,ii,World.mk.injEq,and_true];apply Array.ext
  .simp
  .intro k f a;simp only[Array.getElem_modify,Array.getElem_push]
   by_cases s:k=w.heap.size
   .subst s;simp[o]
   .have:k<w.heap.size:=by simp at a;omega
    simp[this,ny s]
 .obtain⟨e,f,a,q⟩:=p;cases h;cases n;refine bH.still m ?_ (.str []);rw[run_convert_bytes_string w g j e ν 0 0 f a q]
  rfl
 .rename_i b off len cap grow;obtain⟨e,f,a,q⟩:=p;cases hs:dW 1 len (.slice b off len cap grow) Z with
  |none=>rw[hs]at h;cases h
  |some t=>
   rw[hs]at h;obtain⟨N,D,S,M⟩:=ng (P:=P) hs (λ_ h _=>by cases h) m n;obtain⟨r,sz,W,T,rfl,Q,_⟩:=n.fk;have y:=M w rfl;simp only[Builtin.firstCells,Fi]at y;dsimp only at h;cases hl:Ka t with
   |none=>rw[hl]at h;cases h
   |some l=>
    rw[hl]at h;cases h;have H:=MH (by rw[xM hl]at D;exact D);rw[H]at y;refine bH.still m ?_ (.str l);rw[run_convert_bytes_string w g j e _ _ _ f a q,run_bytesToString w _ _ _ _ y,My]
    congr 2
    unfold iI
    congr 1
    apply Array.ext';simp[Xf,Function.comp_def]
 .cases h
end
section
variable {x:K}{x':Value}{n:Nat}{mw fB:υ Value}{t e:TypeId}{i:K}{fs:Array Field}{f:Field}{ti:TypeInfo}{u:TypeDesc}{i':Value}
section
variable {P:Program} {ρ:Ren} {Z Z':O} {w:World} {v:K}
def Dz (x:υ K)(a y:Nat):υ Nat:=
 match x with
 |none=>Φ a
 |some (.int _ (.ofNat n))=>bF (Nat.ble n y) (Φ n) ν
 |_=>ν
def kU {b y:Nat}(h:Dz (Φ x) b y=Φ n)(c:VR ρ x x'){Y:Nat}(g:y<=Y)(a:BoundsCode):
 (Instr.sliceBound x' Y a).run P w=.ok n w/\n<=y:=by
 unfold Dz at h
 split at h
 .rename_i e;cases e
 .rename_i k m e;cases e;simp only[aS,nR]at h
  split at h
  .rename_i hle;cases h;cases c;refine⟨?_,hle⟩;have d:(0:Int)<=Int.ofNat n/\Int.ofNat n<=(Y:Int):=⟨aNw _,by show(n:Int)<=Y;omega⟩;simp only[Instr.sliceBound,asIntOf,Ψ,Ω,Ξ,Sem.run_ite,gq d]
   rfl
  .cases h
 .cases h
def U0 (ρ:Ren)(x:υ K)(x':υ Value):Prop:=match x,x' with|none,none=>True|some x,some x'=>VR ρ x x'|_,_=>False
def pM (lo hi:υ K)(len cap:Nat):υ (Nat×Nat):=
 match Dz hi len cap with
 |some h=>(match Dz lo 0 h with|some l=>Φ (l,h)|none=>ν)
 |none=>ν
def px {isSlice:Bool}{lo hi:υ K}{len cap g l h:Nat}(a:pM lo hi len cap=Φ (l,h))(b:U0 ρ lo mw)(c:U0 ρ hi fB)(m:cap<=g)
 (k:hi=ν->len<=cap):(Instr.sliceBounds isSlice len g mw fB ν).run P w=.ok (l,h,g) w/\l<=h/\h<=cap:=by
 unfold pM at a;cases e1:Dz hi len cap with
 |none=>rw[e1]at a;cases a
 |some h0=>
  rw[e1]at a;cases e2:Dz lo 0 h0 with
  |none=>dsimp only at a;rw[e2]at a;cases a
  |some o=>
   dsimp only at a;rw[e2]at a;cases a
   have H:h<=cap:=by
    cases hi with
    |none=>cases e1;exact k rfl
    |some x=>cases fB with
     |none=>exact c.elim
     |some x'=>exact(kU (P:=P) (w:=w) e1 c (hI _) .index).2
   have L:l<=h:=by
    cases lo with
    |none=>cases e2;omega
    |some x=>cases mw with
     |none=>exact b.elim
     |some x'=>exact(kU (P:=P) (w:=w) e2 b (hI _) .index).2
   refine⟨?_,L,H⟩;cases hi with
   |none=>
    cases fB with
    |some _=>exact c.elim
    |none=>
     cases e1;cases lo with
     |none=>cases mw with
      |some _=>exact b.elim
      |none=>cases e2;simp[Instr.sliceBounds]
     |some x=>cases mw with
      |none=>exact b.elim
      |some x'=>simp[Instr.sliceBounds,(kU (P:=P) (w:=w) e2 b (hI _) .sliceB).1]
   |some y=>
    cases fB with
    |none=>exact c.elim
    |some y'=>
     have j:=λd=>(kU (P:=P) (w:=w) e1 c m d).1;cases lo with
     |none=>cases mw with
      |some _=>exact b.elim
      |none=>cases e2;cases isSlice<;>simp[Instr.sliceBounds,j]
     |some x=>cases mw with
      |none=>exact b.elim
      |some x'=>cases isSlice<;>simp[Instr.sliceBounds,j,(kU (P:=P) (w:=w) e2 b (hI _) .sliceB).1]
def gj (x:K)(lo hi:υ K)(Z:O):OR:=
 match x with
 | .str s=>(match pM lo hi s.length s.length with|some (l,h)=>.ok (.str ((s.drop l).take (h-l))) Z|none=>.bad)
 |_=>.bad
def xO (s:δ Γ)(l h:Nat):(iI s).extract l h=iI ((s.drop l).take (h-l)):=by
 unfold iI;apply ByteArray.ext;rw[ByteArray.data_extract];apply Array.ext';simp only[Array.toList_extract,List.extract_eq_take_drop]
def An {lo hi:υ K}(h:gj x lo hi Z=.ok v Z')(b:WR ρ Z w)(a:VR ρ x x')(g:U0 ρ lo mw)(d:U0 ρ hi fB)
 (c:P.underlying t=Φ .string):bH P (Instr.sliceAt t x' mw fB ν) ρ Z w v Z':=by
 unfold gj at h
 split at h
 .rename_i s
  split at h
  .rename_i l k hb;cases h;cases a;obtain⟨j,o,m⟩:=px (P:=P) (w:=w) (isSlice:=φ) hb g d (hI _) (λ_=>hI _);refine bH.still b (v':=.string ((iI s).extract l k)) ?_ (by rw[xO];exact .str _);have e:=lY s;simp[Instr.sliceAt,kn c,Instr.slice,e,j]
  .cases h
 .cases h
def aQ (size:Nat)(x:K)(lo hi:υ K)(Z:O):OR:=
 match x with
 | .ae=>(match pM lo hi 0 0 with|some _=>.ok .ae Z|none=>.bad)
 | .slice b off len cap grow=>bF (Nat.ble len cap) (match pM lo hi len cap with
   |some (l,h)=>qT (Nat.sub h l) λn=>qT (Nat.sub cap l) λc=>
    bF (Bool.and (Nat.beq grow 0) (Nat.beq l cap)) (.ok (.slice b off n c grow) Z) (qT (Nat.add off (Nat.mul l size)) λo=>bF (Bool.or (Nat.beq grow 0) (Nat.beq grow size)) (.ok (.slice b o n c grow) Z) .bad)
   |none=>.bad) .bad
 |_=>.bad
def Bj {size:Nat}{lo hi:υ K}(h:aQ size x lo hi Z=.ok v Z')(m:WR ρ Z w)(H:VR ρ x x')(N:U0 ρ lo mw)(M:U0 ρ hi fB)
 (I:P.underlying t=Φ (.slice e)) (L:(Go.sizeOf e).run P w=.ok size w):bH P (Instr.sliceAt t x' mw fB ν) ρ Z w v Z':=by
 unfold aQ at h
 split at h
 .split at h
  .rename_i T hb;obtain⟨l,k⟩:=T;cases h;cases H;obtain⟨G,b2,b3⟩:=px (P:=P) (w:=w) (isSlice:=θ) hb N M (hI _) (λ_=>hI _);have W:k=0:=by omega
   have z:l=0:=J
   subst W;subst z;refine bH.still m ?_ .ae;simp[Instr.sliceAt,kn I,Instr.slice,G,L]
  .cases h
 .rename_i b off len cap grow;rw[aS]at h
  split at h
  rotate_left
  .cases h
  rename_i g;rw[nR]at g
  split at h
  .rename_i l k hb;rw[dR,dR]at h;obtain⟨r,sz,j,c,rfl,q,c1,Y,Q,X⟩:=H.fk;obtain⟨G,b2,b3⟩:=px (P:=P) (w:=w) (isSlice:=θ) hb N M Y (λ_=>g)
   have o:(Instr.sliceAt t (.slice (Φ ⟨r,j,ν⟩) len c) mw fB ν).run P w=
    .ok (.slice (if c=l then Φ ⟨r,j,ν⟩else Φ ⟨r,j+l*size,ν⟩) (k-l) (c-l)) w:=by
    simp[Instr.sliceAt,kn I,Instr.slice,G,L,lJ]
   simp only[aS,mZ,xF,md,dR]at h
   split at h
   .rename_i a;obtain⟨a,z⟩:=a;cases h;obtain⟨F,D⟩:=Q a;subst a;subst F;subst D;subst z;refine bH.still m o ?_;rw[gq rfl];exact .slice _ _ _ _ r sz q
   .rename_i y
    split at h
    .rename_i a
     .cases h
      by_cases p:grow=0
      .obtain⟨F,D⟩:=Q p;subst p;subst F;subst D;refine bH.still m o ?_;rw[B (λe=>y ⟨rfl,e.symm⟩)];exact .slice _ _ _ _ r sz q
      .have C:grow=size:=by rcases a with a|a;exact absurd a p;exact a
       obtain⟨d1,d2⟩:=X J;refine bH.still m o ?_
       have key:∀d,d+(c-l)*grow<=sz->(0<cap-l->d=off+l*size)->
        VR ρ (.slice b (off+l*size) (k-l) (cap-l) grow) (.slice (Φ ⟨r,d,ν⟩) (k-l) (c-l)):=λd s Zq=>
        .pX _ _ d _ _ (c-l) grow r sz q J J J Zq s
       split
       .rename_i S;exact key j (by rw[S,Nat.sub_self,Nat.zero_mul];omega) J
       .refine key (j+l*size) ?_ (λhp=>by rw[c1 J])
        have:l*size+(c-l)*grow=c*grow:=by
         rw[C,<-tx];congr 1;omega
        omega
    .cases h
  .cases h
 .cases h
def jK (size:Nat)(x:K)(lo:υ K)(hi mx:K)(Z:O):OR:=
 match x with
 | .slice b off len cap grow=>(match Dz (Φ mx) 0 cap with
   |some m=>(match pM lo (Φ hi) len m with
    |some (l,h)=>bF (Bool.or (Nat.beq grow 0) (Nat.ble (Nat.succ l) cap)) (qT (Nat.sub h l) λn=>qT (Nat.sub m l) λc=>bF (Nat.beq m l) (.ok (.slice b off n c 0) Z) (qT (Nat.add off (Nat.mul l size)) λo=>.ok (.slice b o n c 0) Z)) .bad
    |none=>.bad)
   |none=>.bad)
 | .ae=>(match Dz (Φ mx) 0 0 with
   |some m=>(match pM lo (Φ hi) 0 m with|some _=>.ok .ae Z|none=>.bad)
   |none=>.bad)
 |_=>.bad
def C6 {size:Nat}{lo:υ K}{hi mx:K}{fB a:Value}(h:jK size x lo hi mx Z=.ok v Z')(o:WR ρ Z w)(C:VR ρ x x')(c:U0 ρ lo mw)(I:VR ρ hi fB)(H:VR ρ mx a)
 (D:P.underlying t=Φ (.slice e)) (F:(Go.sizeOf e).run P w=.ok size w):bH P (Instr.sliceAt t x' mw (Φ fB) (Φ a)) ρ Z w v Z':=by
 unfold jK at h
 split at h
 .rename_i b off len cap grow
  split at h
  .rename_i m hm
   split at h
   .rename_i l k hb;obtain⟨r,sz,j,L,rfl,G,Y,X,W,c4⟩:=C.fk;obtain⟨d,M⟩:=kU (P:=P) (w:=w) hm H X .slice3Acap;unfold pM at hb;cases e1:Dz (Φ hi) len m with
    |none=>rw[e1]at hb;cases hb
    |some h0=>
     rw[e1]at hb;cases e2:Dz lo 0 h0 with
     |none=>dsimp only at hb;rw[e2]at hb;cases hb
     |some Q=>
      dsimp only at hb;rw[e2]at hb;cases hb;obtain⟨g,S⟩:=kU (P:=P) (w:=w) e1 I (hI _) .slice3B
      have q:l<=k/\(Instr.sliceBounds θ len L mw (Φ fB) (Φ a)).run P w=.ok (l,k,m) w:=by
       cases lo with
       |none=>cases mw with
        |some _=>exact c.elim
        |none=>cases e2;exact⟨J,by simp[Instr.sliceBounds,d,g]⟩
       |some y=>cases mw with
        |none=>exact c.elim
        |some y'=>
         obtain⟨l1,l2⟩:=kU (P:=P) (w:=w) e2 c (hI _) .slice3C;exact⟨l2,by simp[Instr.sliceBounds,d,g,l1]⟩
      have z:(Instr.sliceAt t (.slice (Φ ⟨r,j,ν⟩) len L) mw (Φ fB) (Φ a)).run P w=
       .ok (.slice (if m=l then Φ ⟨r,j,ν⟩else Φ ⟨r,j+l*size,ν⟩) (k-l) (m-l)) w:=by
       simp[Instr.sliceAt,kn D,Instr.slice,q.2,F,lJ]
      simp only[aS,xF,md,nR,dR]at h
      split at h
      .rename_i hg
       have T:j=off:=by
        rcases hg with hg|hg
        .exact(W hg).2
        .exact Y J
       subst T
       split at h
       .rename_i s;cases h;refine bH.still o z ?_;rw[gq s];exact .slice _ _ _ _ r sz G
       .rename_i s;cases h;refine bH.still o z ?_;rw[B s];exact .slice _ _ _ _ r sz G
      .cases h
   .cases h
  .cases h
 .split at h
  .rename_i m hm
   split at h
   .rename_i N hb;obtain⟨l,k⟩:=N;cases h;cases C;obtain⟨d,M⟩:=kU (P:=P) (w:=w) hm H (hI 0) .slice3Acap;have Mg:m=0:=by omega
    subst Mg;unfold pM at hb;cases e1:Dz (Φ hi) 0 0 with
    |none=>rw[e1]at hb;cases hb
    |some h0=>
     rw[e1]at hb;cases e2:Dz lo 0 h0 with
     |none=>dsimp only at hb;rw[e2]at hb;cases hb
     |some Q=>
      dsimp only at hb;rw[e2]at hb;cases hb;obtain⟨g,S⟩:=kU (P:=P) (w:=w) e1 I (hI _) .slice3B;have Tf:k=0:=J
      subst Tf
      have q:l<=0/\(Instr.sliceBounds θ 0 0 mw (Φ fB) (Φ a)).run P w=.ok (l,0,0) w:=by
       cases lo with
       |none=>cases mw with
        |some _=>exact c.elim
        |none=>cases e2;exact⟨J,by simp[Instr.sliceBounds,d,g]⟩
       |some y=>cases mw with
        |none=>exact c.elim
        |some y'=>
         obtain⟨l1,l2⟩:=kU (P:=P) (w:=w) e2 c (hI _) .slice3C;exact⟨l2,by simp[Instr.sliceBounds,d,g,l1]⟩
      have p:l=0:=J
      subst p;refine bH.still o ?_ .ae;simp[Instr.sliceAt,kn D,Instr.slice,q.2,F]
   .cases h
  .cases h
 .cases h
def cD (n size:Nat)(x:K)(lo hi:υ K)(Z:O):OR:=
 match x with
 | .ptr b off=>(match pM lo hi n n with
   |some (l,h)=>qT (Nat.sub h l) λk=>qT (Nat.sub n l) λc=>bF (Nat.beq n l) (.ok (.slice b off k c 0) Z) (qT (Nat.add off (Nat.mul l size)) λo=>.ok (.slice b o k c 0) Z)
   |none=>.bad)
 |_=>.bad
def Ao {size:Nat}{lo hi:υ K}(h:cD n size x lo hi Z=.ok v Z')(d:WR ρ Z w)(j:VR ρ x x')(q:U0 ρ lo mw)(p:U0 ρ hi fB)
 (m:P.underlying t=Φ (.array n e)) (o:(Go.sizeOf e).run P w=.ok size w):bH P (Instr.sliceAt t x' mw fB ν) ρ Z w v Z':=by
 unfold cD at h
 split at h
 .rename_i b off
  split at h
  .rename_i l k hb;cases j with
   |ptr _ _ r sz g=>
    obtain⟨s,z,y⟩:=px (P:=P) (w:=w) (isSlice:=φ) hb q p (hI _) (λ_=>hI _)
    have c:(Instr.sliceAt t (.pointer (Φ ⟨r,off,ν⟩)) mw fB ν).run P w=
     .ok (.slice (Φ (if n=l then ⟨r,off,ν⟩else ⟨r,off+l*size,ν⟩)) (k-l) (n-l)) w:=by
     simp[Instr.sliceAt,kn m,Instr.sureAddr,s,o,lJ]
    simp only[aS,md,dR]at h
    split at h
    .rename_i a;cases h;refine bH.still d c ?_;rw[gq a];exact .slice _ _ _ _ r sz g
    .rename_i a;cases h;refine bH.still d c ?_;rw[B a];exact .slice _ _ _ _ r sz g
  .cases h
 .cases h
def qL (n:Nat)(x:K)(Z:O):OR:=
 match x with| .slice b off len cap grow=>bF (Bool.and (Nat.ble n len) (Bool.or (Nat.beq grow 0) (Bool.and (Nat.ble 1 cap) (Nat.ble len cap)))) (.ok (.ptr b off) Z) .bad|_=>.bad
def Im (h:qL n x Z=.ok v Z')(c:WR ρ Z w)(a:VR ρ x x')(d:P.underlying t=Φ (.array n e)):bH P (Instr.arrayAt t x') ρ Z w v Z':=by
 unfold qL at h
 split at h
 .rename_i b off len cap grow;simp only[aS,mZ,xF,md,nR]at h
  split at h
  .rename_i hg;cases h;obtain⟨r,sz,k,o,rfl,g,m,q,l,p⟩:=a.fk
   have j:k=off:=by
    rcases hg.2 with hg|hg
    .exact(l hg).2
    .exact m J
   subst j;refine bH.still c ?_ (.ptr _ _ r sz g);have:¬len<n:=J
   simp[Instr.arrayAt,kn d,this]
  .cases h
 .cases h
def aj (off:Nat)(x:K)(Z:O):OR:=match x with| .ptr b o=>qT (Nat.add o off) λo=>.ok (.ptr b o) Z|_=>.bad
def ze {i:Nat}{off:Nat}(h:aj off x Z=.ok v Z')(c:WR ρ Z w)(a:VR ρ x x')(d:P.underlying t=Φ (.struct fs))
 (m:fs[i]?=Φ f) (k:f.offset=off) (g:(Go.sizeOf f.type).run P w=.ok n w) (l:n≠0):bH P (Instr.fieldAt t x' i) ρ Z w v Z':=by
 unfold aj at h
 split at h
 .rename_i b o;rw[dR]at h;cases h;cases a with
  |ptr _ _ r sz j=>
   refine bH.still c ?_ (.ptr _ _ r sz j);simp[Instr.fieldAt,kn d,m,Instr.sureAddr,fieldPlace,g,l,lJ,k]
 .cases h
def zf (a:Bool)(off size:Nat)(x:K)(Z:O):OR:=match x with| .agg s=>Option.rec .bad (λv=>.ok v Z) (fR a off size s)|_=>.bad
def FQ {i:Nat}(h:zf (jB u) f.offset ti.size x Z=.ok v Z')(g:WR ρ Z w)(d:VR ρ x x')(j:P.underlying t=Φ (.struct fs))
 (k:fs[i]?=Φ f) (hi:P.info? f.type=Φ ti) (a:P.underlying f.type=Φ u):bH P (Instr.field t x' i) ρ Z w v Z':=by
 unfold zf at h
 split at h
 .rename_i s;cases hc:fR (jB u) f.offset ti.size s with
  |none=>rw[hc]at h;cases h
  |some y=>
   rw[hc]at h;cases h;cases d with
   |agg _ l hl hh=>
    obtain⟨y',c,b⟩:=jF (P:=P) (w:=w) hc ⟨hl,hh⟩ hi rfl a rfl;refine bH.still g ?_ b;simp[Instr.field,kn j,k,asAgg,c]
 .cases h
def gE (n size:Nat)(x i:K)(Z:O):OR:=
 match x,i with| .ptr b o,.int _ (.ofNat j)=>bF (Nat.ble (Nat.succ j) n) (qT (Nat.add o (Nat.mul j size)) λo=>.ok (.ptr b o) Z) .bad|_,_=>.bad
def de (size:Nat)(x i:K)(Z:O):OR:=
 match x,i with| .slice b o len cap grow,.int _ (.ofNat j)=>bF (Bool.and (Nat.ble (Nat.succ j) len) (Bool.or (Nat.beq grow 0) (Nat.ble len cap))) (qT (Nat.add o (Nat.mul j size)) λo=>.ok (.ptr b o) Z) .bad|_,_=>.bad
def C9 {size:Nat}(h:gE n size x i Z=.ok v Z')(c:WR ρ Z w)(a:VR ρ x x')(hi:VR ρ i i')(d:P.underlying t=Φ (.array n e))
 (g:(Go.sizeOf e).run P w=.ok size w):bH P (Instr.indexAt t x' i') ρ Z w v Z':=by
 unfold gE at h
 split at h
 .rename_i b o k j;simp only[aS,nR,dR]at h
  split at h
  .rename_i p;cases h;cases hi;cases a with
   |ptr _ _ r sz l=>
    refine bH.still c ?_ (.ptr _ _ r sz l);have m:(0:Int)<=Int.ofNat j/\Int.ofNat j<(n:Int):=⟨aNw _,by show(j:Int)<n;omega⟩;simp only[Instr.indexAt,asIntOf,Ψ,Ω,Ξ,kn d,Instr.sureAddr,Sem.run_ite,gq m,g,lJ]
    rfl
  .cases h
 .cases h
def FP {size:Nat}(h:de size x i Z=.ok v Z')(c:WR ρ Z w)(a:VR ρ x x')(hi:VR ρ i i')(d:P.underlying t=Φ (.slice e))
 (g:(Go.sizeOf e).run P w=.ok size w):bH P (Instr.indexAt t x' i') ρ Z w v Z':=by
 unfold de at h
 split at h
 .rename_i b o len cap grow k j;simp only[aS,mZ,xF,md,nR,dR]at h
  split at h
  .rename_i p;cases h;cases hi;obtain⟨r,sz,s,C,rfl,l,z,F,y,D⟩:=a.fk
   have m:s=o:=by
    rcases p.2 with hg|hg
    .exact(y hg).2
    .exact z J
   subst m;refine bH.still c ?_ (.ptr _ _ r sz l);have q:(0:Int)<=Int.ofNat j/\Int.ofNat j<(len:Int):=⟨aNw _,by show(j:Int)<len;omega⟩;simp only[Instr.indexAt,asIntOf,Ψ,Ω,Ξ,kn d,Sem.run_ite,gq q,g,lJ]
   rfl
  .cases h
 .cases h
def nJ (x i:K)(Z:O):OR:=
 match x,i with| .str l,.int _ (.ofNat j)=>(match l[j]? with|some b=>.ok (bG b) Z|none=>.bad)|_,_=>.bad
def C8 (h:nJ x i Z=.ok v Z')(g:WR ρ Z w)(d:VR ρ x x')(hi:VR ρ i i')(m:P.underlying t=some .string):bH P (Instr.index t x' i') ρ Z w v Z':=by
 unfold nJ at h
 split at h
 .rename_i l k j
  split at h
  .rename_i b c;cases h;cases hi;cases d;refine bH.still g ?_ (.int _ _);have o:(0:Int)<=Int.ofNat j:=aNw _;have a:=(qo.1 c).1
   have p:(iI l)[(Int.ofNat j).toNat]?=some b:=by
    show(iI l)[j]?=_;rw[getElem?_pos (iI l) j (by rw[lY];exact a)];rw[<-c,li a];rfl
   simp only[Instr.index,asIntOf,Sem.run_bind,Sem.run_pure,Result.andThen_ok,kn m,gq o,p]
  .cases h
 .cases h
def xZ (n size:Nat)(a:Bool)(x i:K)(Z:O):OR:=
 match x,i with| .agg s,.int _ (.ofNat j)=>bF (Nat.ble (Nat.succ j) n) (Option.rec .bad (λv=>.ok v Z) (fR a (Nat.mul j size) size s)) .bad|_,_=>.bad
def Da (h:xZ n ti.size (jB u) x i Z=.ok v Z')(g:WR ρ Z w)(d:VR ρ x x')(hi:VR ρ i i')(m:P.underlying t=Φ (.array n e))
 (a:P.info? e=Φ ti) (q:P.underlying e=Φ u):bH P (Instr.index t x' i') ρ Z w v Z':=by
 unfold xZ at h
 split at h
 .rename_i s k j;simp only[aS,nR]at h
  split at h
  .rename_i r;cases hc:fR (jB u) (Nat.mul j ti.size) ti.size s with
   |none=>rw[hc]at h;cases h
   |some y=>
    rw[hc]at h;cases h;cases hi;cases d with
    |agg _ l hl hh=>
     obtain⟨y',c,b⟩:=jF (P:=P) (w:=w) hc ⟨hl,hh⟩ a rfl q rfl;refine bH.still g ?_ b;have p:(0:Int)<=Int.ofNat j/\Int.ofNat j<(n:Int):=⟨aNw _,by show(j:Int)<n;omega⟩;have o:(Go.sizeOf e).run P w=.ok ti.size w:=by simp[Go.sizeOf,typeInfo,a]
     simp only[Instr.index,asIntOf,Ψ,Ω,Ξ,kn m,Sem.run_ite,gq p,o];exact c
  .cases h
 .cases h
def mG (t:TypeId)(x:K)(Z:O):OR:=.ok (.iface t x) Z
def FO (h:mG t x Z=.ok v Z')(b:WR ρ Z w)(a:VR ρ x x')(c:P.concrete t=θ):bH P (Instr.makeInterface t x') ρ Z w v Z':=by
 cases h;exact bH.still b (run_makeInterface w t x' c) (.iface t x x' a)
end
end
section
variable {es:δ (K×K×Nat)}{clock r sz:Nat}{t ty:TypeId}{x:K}{x':Value}{e:TypeId}{i:TypeInfo}{z:δ K}{z':Value}
def cr (c:Nat)(z:δ K):δ K:=(List.replicate c z).flatten
def rI (z:Array Value):∀c,((List.range (c*z.size)).map λi=>z[i%z.size]!)=(List.replicate c z.toList).flatten:=by
 intro c
 induction c with
 |zero=>simp
 |succ c a=>
  rw[aNr,YN,<-a,Nat.succ_mul,æ,List.range_add,wd,Xf]
  congr 1
  .apply List.ext_getElem
   .simp
   .intro i h1 h2;simp only[so,List.length_range]at h1;simp[QF h1,h1]
  .apply List.map_congr_left;intro i _;simp
section
variable {P:Program} {ρ:Ren} {Z Z':O} {w:World} {v:K}
def fp.flatten {l:List K}{a:List Value}(h:fp ρ l a)(c:Nat):fp ρ (List.replicate c l).flatten (List.replicate c a).flatten:=by
 induction c with
 |zero=>exact fp.nil ρ
 |succ c b=>rw[aNr,aNr,YN,YN];exact h.app b
inductive Qo where
 |str|slice|map|cap
 |const (n:Nat)
def aY (k:Qo)(x:K)(Z:O):OR:=
 match k,x with
 | .const n,_=>Ar .i64 Z n
 | .str,.str l=>Ar .i64 Z l.length
 | .slice,.ae=>Ar .i64 Z 0
 | .slice,.slice _ _ len _ _=>Ar .i64 Z len
 | .slice,.oM=>Ar .i64 Z 0
 | .map,.gM=>Ar .i64 Z 0
 | .map,.map b=>(match Z.m.g b with|some (.map es _)=>qT es.length (Ar .i64 Z)|some (.lmap es)=>qT es.length (Ar .i64 Z)|_=>.bad)
 | .cap,.ae=>Ar .i64 Z 0
 | .cap,.slice _ _ _ cap grow=>bF (Nat.beq grow 0) (Ar .i64 Z cap) (.ok (.iQ cap) Z)
 |_,_=>.bad
def Nv (P:Program)(k:Qo)(t:TypeId):Prop:=
 match k with
 | .str=>P.underlying t=Φ .string
 | .slice=>∃e,P.underlying t=Φ (.slice e)
 | .map=>∃k e,P.underlying t=Φ (.map k e)
 | .cap=>False
 | .const n=>(∃e,P.underlying t=Φ (.array n e))\/∃a e,P.underlying t=Φ (.pointer a)/\P.underlying a=Φ (.array n e)
def WR.map {b:Nat}(h:WR ρ Z w)(c:Z.m.g b=Φ (.map es clock))(a:ρ b=Φ (r,sz)):
 ∃es':δ MapEntry,w.heap[r]?=Φ (.map es'.toArray clock)/\es.length=es'.length/\
  ∀(i:Nat) (e:K×K×Nat) (e':MapEntry),es[i]?=Φ e->es'[i]?=Φ e'->VR ρ e.1 e'.key/\VR ρ e.2.1 e'.val/\e.2.2=e'.born:=by
 obtain⟨o,f,d⟩:=h.at' b _ r sz c a;cases d with
 |map _ _ es' hl h=>exact⟨es',f,hl,h⟩
def WR.lmap {b:Nat}(h:WR ρ Z w)(c:Z.m.g b=Φ (.lmap es))(a:ρ b=Φ (r,sz)):
 ∃(l:δ (K×K×Nat)) (clock:Nat) (es':δ MapEntry),w.heap[r]?=Φ (.map es'.toArray clock)/\l.Perm es/\(∀e∈es,∃n:Int,e.1=.int .i64 n)/\(es.map (·.1)).Nodup/\Go.MapKept.Stamped es'.toArray clock/\l.length=es'.length/\
  ∀(i:Nat) (e:K×K×Nat) (e':MapEntry),l[i]?=Φ e->es'[i]?=Φ e'->VR ρ e.1 e'.key/\VR ρ e.2.1 e'.val:=by
 obtain⟨o,f,d⟩:=h.at' b _ r sz c a;cases d with
 |lmap _ l clock es' hp hi hn hs hl h=>exact⟨l,clock,es',f,hp,hi,hn,hs,hl,h⟩
def dQ {es:Array MapEntry}(h:w.heap[r]?=Φ (.map es clock)):(getObj r).run P w=.ok (.map es clock) w:=by
 simp only[getObj,Sem.run,h]
def Lz {k:Qo}(h:aY k x Z=.ok v Z')(d:WR ρ Z w)(g:VR ρ x x')(c:Nv P k t)(ats:Array TypeId)(f:ats[0]?=Φ t):
 bH P (Builtin.len_ ats ty #[x']) ρ Z w v Z':=by
 unfold aY at h
 split at h
 .cases h;refine bH.still d ?_ (.int _ _);rcases c with⟨e,c⟩|⟨a,e,c,s⟩
  .simp only[Builtin.len_,f,Rh,io,Ψ,kn c,Ξ]
   rfl
  .simp only[Builtin.len_,f,Rh,io,Ψ,kn c,kn s,Ξ]
   rfl
 .cases h;cases g;refine bH.still d ?_ (.int _ _);have m:P.underlying t=Φ .string:=c;simp[Builtin.len_,f,kn m,goInt]
 .cases h;cases g;obtain⟨e,c⟩:=c;refine bH.still d ?_ (.int _ _);simp[Builtin.len_,f,kn c,goInt]
 .cases h;obtain⟨e,c⟩:=c;obtain⟨r,sz,y,u,rfl,_⟩:=g.fk;refine bH.still d ?_ (.int _ _);simp[Builtin.len_,f,kn c,goInt]
 .cases h;cases g;obtain⟨e,c⟩:=c;refine bH.still d ?_ (.int _ _);simp[Builtin.len_,f,kn c,goInt]
 .cases h;cases g;obtain⟨e,q,c⟩:=c;refine bH.still d ?_ (.int _ _);simp[Builtin.len_,f,kn c,goInt]
 .rename_i b;obtain⟨e,q,c⟩:=c
  split at h
  .rename_i es clock hm;rw[dR]at h;cases h;cases g with
   |map _ r sz j=>
    obtain⟨es',o,n,p⟩:=d.map hm j;refine bH.still d ?_ (.int _ _);simp[Builtin.len_,f,kn c,goInt,dQ o,n]
  .rename_i es hm;rw[dR]at h;cases h;cases g with
   |map _ r sz j=>
    obtain⟨l,clock,es',o,n,_,_,_,p,_⟩:=d.lmap hm j;refine bH.still d ?_ (.int _ _);simp[Builtin.len_,f,kn c,goInt,dQ o,<-p,n.length_eq]
  .cases h
 .exact c.elim
 .exact c.elim
 .cases h
def LB (h:aY .cap x Z=.ok v Z')(c:WR ρ Z w)(f:VR ρ x x')(d:P.underlying t=some (.slice e))(ats:Array TypeId)(a:ats[0]?=some t):
 bH P (Builtin.cap_ ats ty #[x']) ρ Z w v Z':=by
 have e:aY .cap x Z=(match (generalizing:=false) x with| .ae=>Ar .i64 Z 0| .slice _ _ _ cap grow=>bF (Nat.beq grow 0) (Ar .i64 Z cap) (.ok (.iQ cap) Z)|_=>.bad):=by cases x<;>rfl
 rw[e]at h
 split at h
 .cases h;cases f;refine bH.still c ?_ (.int _ _);simp[Builtin.cap_,a,kn d,goInt]
 .rename_i b off len cap grow;obtain⟨r,sz,n,j,rfl,m,p,l,k,o⟩:=f.fk;simp only[aS,md]at h
  split at h
  .rename_i hg;cases h;obtain⟨g,_⟩:=k hg;subst g;refine bH.still c ?_ (.int _ _);simp[Builtin.cap_,a,kn d,goInt]
  .cases h;refine bH.still c (v':=.int .i64 (j:Int)) ?_ (.iQ _ _ (by exact_mod_cast l));simp[Builtin.cap_,a,kn d,goInt]
 .cases h
def uo (e bytes:Nat)(z:δ K)(l c:K)(Z:O):OR:=
 match l,c with
 | .int _ (.ofNat l),.int _ (.ofNat c)=>
   bF (Bool.and (Nat.ble l c) (Bool.and (Nat.ble (Nat.mul bytes c) 281474976710656) (Nat.ble c 9223372036854775807)))
    (.ok (.slice Z.nx 0 l c 0) ⟨Z.m.put Z.nx (Φ (.cells (cr c z) e φ)),Z.nx+1⟩) .bad
 |_,_=>.bad
def Ip {bytes:TypeId}{l c:K}{f j:Value}(h:uo e bytes z l c Z=.ok v Z')(p:WR ρ Z w)(u:VR ρ l f)(y:VR ρ c j)
 (q:P.underlying t=Φ (.slice e)) (hi:P.info? e=Φ i) (o:i.zero=Φ z') (C:i.bytes=bytes) (b:z'.cells.size=i.size) (k:∀ρ,fp ρ z z'.cells.toList):
 bH P (Instr.makeSlice t f j) ρ Z w v Z':=by
 unfold uo at h
 split at h
 .rename_i k1 l n c;simp only[aS,mZ,nR]at h
  split at h
  .rename_i hg;cases h;cases u;cases y;obtain⟨I,H,G⟩:=hg
   have m:=run_make w t e i z' q hi o k1 n (l:Int) (c:Int) (aNw _) (Int.ofNat_le.2 I) (by
    rw[C];have:bytes*c<=281474976710656:=H;have D:((bytes*c:Nat):Int)<=281474976710656:=Int.ofNat_le.2 this
    rwa [Int.natCast_mul]at D) (Int.ofNat_le.2 G)
   have d:(madeCells z'.cells (c*i.size)).toList=(List.replicate c z'.cells.toList).flatten:=by
    rw[<-b,madeCells,ì,aNU];exact rI z'.cells c
   obtain⟨a,L,F,g⟩:=br.newRow (P:=P) (t:=e) (s:=cr c z) (l:=(madeCells z'.cells (c*i.size)).toList) p (λa _=>by
    rw[d];exact(k a).flatten c) φ
   refine⟨_,_,a,m,?_,?_⟩
   .have:=VR.slice (ρ:=a) Z.nx 0 l c w.heap.size _ F
    simpa using this
   .rw[Ä]at g;exact g
  .cases h
 .cases h
inductive JS where
 |slice|str|zeros
def cZ (k:JS)(size:Nat)(z:δ K)(x:K)(Z:O):υ (Nat×δ K):=
 match k,x with
 | .slice,.ae=>Φ (0,[])
 | .slice,.slice b off len cap grow=>(match dW size len (.slice b off len cap grow) Z with|some s=>Φ (len,s)|none=>ν)
 | .str,.str l=>Φ (l.length,l.map bG)
 | .zeros,.int _ (.ofNat n)=>bF (Nat.ble n 1099511627776) (Φ (n,cr n z)) ν
 |_,_=>ν
def Ff (P:Program)(k:JS)(u:TypeId)(size:Nat):Prop:=
 match k with
 | .slice=>∃e,P.underlying u=Φ (.slice e)
 | .str=>P.underlying u=Φ .string/\size=1
 | .zeros=>∃j,P.underlying u=Φ (.int j)
def nQ (b:TypeId)(size:Nat)(zeros:Bool)(n:Nat)(d:Sem (Array Value))(base:Option Addr)(sLen sCap:Nat)(s x:Value):Sem Value:=do
 let need:=sLen+n
 if need<=sCap then
  let new<-d
  if let some a:=base then storeCells (a.add (sLen*size)) new.toList
  pure (.slice base need sCap)
 else
  if (need:Int)>IntKind.i64.max/\(zeros\/(<-typeInfo b).bytes=0)then runtimePanic (.error "growslice: len out of range")
  if Builtin.nextslicecap need sCap*(<-typeInfo b).bytes>2^48 then (if zeros then runtimePanic (.error "growslice: len out of range")else do
   if !(<-Builtin.mayShare size sLen n base x)then mark .noRoom
   unsupported (.resourceLimit "append: a slice or a string whose bytes no memory bears"))
  let c<-choose (.appendCap need sCap b)
  askRoom (c*(<-typeInfo b).bytes)
  let Df<-Builtin.firstCells size sLen s
  let new<-d
  let rest:=Builtin.zeroCells (<-zeroValue b).cells (c-need)
  pure (.slice (some (<-newRow b (Df++new++rest))) need c)
def DO {k:JS}{u size:TypeId}{n:Nat}{s:δ K}(h:cZ k size z x Z=Φ (n,s))(G:WR ρ Z w)(f:VR ρ x x')
 (a:Ff P k u size) (p:P.underlying t=Φ (.slice e)) (hi:P.info? e=Φ i) (hz:i.zero=Φ z') (H:i.size=size) (g:z'.cells.size=size) (F:∀ρ,fp ρ z z'.cells.toList) (L:k=.zeros->i.bytes<=256):
 ∃d zeros q,fp ρ s d/\d.length=n*size/\(∀c:World,c.heap=w.heap->q.run P c=.ok d.toArray c)/\
  ∀base sLen sCap,(Builtin.append_ #[t,u] ty #[.slice base sLen sCap,x']).run P w=(nQ e size zeros n q base sLen sCap (.slice base sLen sCap) x').run P w:=by
 have o:(Go.sizeOf e).run P w=.ok size w:=by simp[Go.sizeOf,typeInfo,hi,H]
 unfold cZ at h
 split at h
 .cases h;cases f;obtain⟨X,a⟩:=a;refine⟨[],φ,Builtin.firstCells size 0 (.slice ν 0 0),fp.nil ρ,V,λc _=>aeF,λbase sLen sCap=>?_⟩;simp only[Builtin.append_,Rh,io,kc,Ψ,kn p,kn a,Ξ,o,Ω,Builtin.lenOf,nQ,ra,ix,pi,ii]
  rfl
 .rename_i b off len cap grow
  split at h
  .rename_i s' D;cases h;obtain⟨X,a⟩:=a;obtain⟨d,W,T,S⟩:=ng (P:=P) D (λ_ h _=>by cases h) G f;obtain⟨r,sz,dM,fS,rfl,_⟩:=f.fk;refine⟨d,φ,_,W,T,S,λbase sLen sCap=>?_⟩;simp only[Builtin.append_,Rh,io,kc,Ψ,kn p,kn a,Ξ,o,Ω,Builtin.lenOf,nQ,ra,ix,pi,ii]
   rfl
  .cases h
 .rename_i m;cases h;cases f;obtain⟨a,rfl⟩:=a;refine⟨(m.map λy:Γ=>Value.int .u8 (y.toNat:Int)),φ,Builtin.firstCells 1 m.length (.string (iI m)),?_,V,λc _=>?_,λbase sLen sCap=>?_⟩
  .exact fp.bytes ρ m
  .simp only[Builtin.firstCells,Ω]
   congr 1
   apply Array.ext'
   have l:(iI m).extract 0 m.length=iI m:=by
    have h:(iI m).extract 0 (iI m).size=iI m:=ByteArray.extract_zero_size
    rwa [lY]at h
   rw[l];simp[iI]
  .simp only[Builtin.append_,Rh,io,kc,Ψ,kn p,kn a,Ξ,o,Ω,Builtin.lenOf,nQ,ra,ix,pi,ii,lY]
   rfl
 .rename_i j m;simp only[aS,nR]at h
  split at h
  .rename_i hm;cases h;cases f;obtain⟨j2,a⟩:=a
   have I:IntKind.i64.wrap (Int.ofNat n)=n:=by
    show IntKind.i64.wrap (n:Int)=n;exact IntWalk.i64_in _ J
   have Y:∀c:World,(zeroValue e).run P c=.ok z' c:=λc=>aaC
   refine⟨(List.replicate n z'.cells.toList).flatten,θ,(if n*size=0 then pure #[]else do pure (Builtin.zeroCells (<-zeroValue e).cells n)),?_,?_,λc _=>?_,λbase sLen sCap=>?_⟩
   .exact(F ρ).flatten n
   .simp[g]
   .split
    .rename_i h0
     have:(List.replicate n z'.cells.toList).flatten=[]:=by
      apply sS.1;simp[g,h0]
     rw[this];rfl
    .simp only[Ψ,Y,Ξ,Ω]
     congr 1
     apply Array.ext';rw[Builtin.zeroCells,ì,aNU];exact rI z'.cells n
   .have h1:¬((n:Int)<0):=by omega
    have Q:¬((n:Int)*i.bytes>2^48):=by
     have N:n*i.bytes<=1099511627776*256:=aOd hm (L rfl);have C:=Int.ofNat_le.2 N;rw[Int.natCast_mul]at C;exact λM=>absurd (Int.lt_of_lt_of_le M C) tW
    simp only[Builtin.append_,Rh,io,kc,Ψ,kn p,kn a,Ξ,o,Ω,asInt,asIntOf,I,Sem.run_ite,typeInfo,run_program,hi,
     B h1,B Q,û,nQ,ix,r8,pi,ii]
    rfl
  .cases h
 .cases h
end
end
