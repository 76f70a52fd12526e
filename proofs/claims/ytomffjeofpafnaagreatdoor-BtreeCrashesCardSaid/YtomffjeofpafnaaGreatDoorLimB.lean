import Derived.Test.YtomffjeofpafnaaGreatDoorLimA
import Derived.Laws.BytesString
import Derived.IntWalk
namespace Lim
open Go
noncomputable section
set_option linter.defProp false
section
variable {P:Program} {ρ:Ren} {st st':St} {w:World} {v:CV}
def VR.eI {b:Nat}{off len cap grow:Nat}{x':Value}(h:VR ρ (.slice b off len cap grow) x'):
 ∃r sz dA fm,x'=.slice (some ⟨r,dA,none⟩) len fm/\ρ b=some (r,sz)/\(0<cap->dA=off)/\cap<=fm/\(grow=0->fm=cap/\dA=off)/\
  (0<grow->dA+fm*grow<=sz/\len<=cap):=by
 cases h with
 |slice _ _ _ _ r sz h=>exact⟨r,sz,off,cap,rfl,h,λ_=>rfl,aDt _,λ_=>⟨rfl,rfl⟩,λh=>absurd h pX⟩
 |nN _ _ dA _ _ fm _ r sz h hg hl hc ho hs=>exact⟨r,sz,dA,fm,rfl,h,ho,hc,λe=>pX,λ_=>⟨hs,hl⟩⟩
def dD (size:Nat)(n:Nat)(x:CV)(st:St):Option (List CV):=
 match x with
 | .ae=>some []
 | .slice b off len _ grow=>bz (Nat.beq n 0) (some []) (bz (Bool.or (Nat.beq grow 0) (Nat.ble n len)) (match st.m.g b with|some (.cells s _ _)=>ia s off (n*size)|some (.ro s _)=>ia s off (n*size)|_=>none) none)
 |_=>none
def l4 {size n:Nat}{x:CV}{x':Value}{t:List CV}(h:dD size n x st=some t)(hn:∀e,x=.ae->e=n->e=0)(hw:WR ρ st w)(hx:VR ρ x x'):
 ∃vs,eF ρ t vs/\vs.length=n*size/\∀w1:World,w1.heap=w.heap->(Builtin.firstCells size n x').run P w1=.ok vs.toArray w1:=by
 unfold dD at h
 split at h
 .cases h;cases hx;have:=hn n rfl rfl;subst this;exact⟨[],eF.nil ρ,rq,λw1 _=>abq⟩
 .rename_i b off len cap grow;obtain⟨r,sz,dA,fm,rfl,hr,h1,h2,h3,h4⟩:=hx.eI;rw[aO]at h
  split at h
  .rename_i h0;simp only[aDZ]at h0;subst h0;cases h;exact⟨[],eF.nil ρ,rq,λw1 _=>by simp[Builtin.firstCells,loadCells,loadCellsFrom]⟩
  .rename_i h0;simp only[aDZ]at h0;rw[aO]at h
   split at h
   .rename_i hg;simp only[aEu,aDZ,aDW]at hg
    split at h
    .rename_i s ty g hm;obtain⟨c,lo,hi,e1,e2,e3,e4,e5⟩:=hw.row hm hr;obtain⟨g1,g2⟩:=jL h
     have ho:dA=off:=by
      rcases hg with hg|hg
      .exact(h3 hg).2
      .by_cases hz:grow=0
       .exact(h3 hz).2
       .have:=(h4 pX).2;exact h1 pX
     subst ho;have g1':=g1;refine⟨(c.toList.drop dA).take (n*size),?_,AI,λw1 Pa=>?_⟩
     .rw[show t=(s.drop dA).take (n*size)from g2]
      have e:(c.toList.drop dA).take (n*size)=((c.toList.take s.length).drop dA).take (n*size):=by
       rw[aFi,aEH,aEi pX]
      rw[e];exact(e4.drop dA).take _
     .exact dW P w1 r dA (n*size) c ty (lo,hi) acz pX
    .rename_i s o0 hm;obtain⟨c,ty,lo,hi,e1,e2,e3,e4⟩:=hw.Om hm hr;obtain⟨g1,g2⟩:=jL h
     have ho:dA=off:=by
      rcases hg with hg|hg
      .exact(h3 hg).2
      .by_cases hz:grow=0
       .exact(h3 hz).2
       .have:=(h4 pX).2;exact h1 pX
     subst ho;have g1':=g1;refine⟨(c.toList.drop dA).take (n*size),?_,AI,λw1 Pa=>?_⟩
     .rw[show t=(s.drop dA).take (n*size)from g2]
      have e:(c.toList.drop dA).take (n*size)=((c.toList.take s.length).drop dA).take (n*size):=by
       rw[aFi,aEH,aEi pX]
      rw[e];exact(e4.drop dA).take _
     .exact dW P w1 r dA (n*size) c ty (lo,hi) acz pX
    .cases h
   .cases h
 .cases h
inductive CC where
 |toInt (k:IntKind)
 |same
 |bytesOf (e:TypeId)
 |strOf
def dy (c:CC)(x:CV)(st:St):OR:=
 match c,x with
 | .toInt k,.int _ n=>.ok (.int k (k.wrap n)) st
 | .same,.str l=>.ok (.str l) st
 | .bytesOf e,.str l=>.ok (.slice st.nx 0 l.length l.length 1) ⟨st.m.put st.nx (some (.cells (l.map bP) e true)),st.nx+1⟩
 | .strOf,.ae=>.ok (.str []) st
 | .strOf,.slice b off len cap grow=>(match dD 1 len (.slice b off len cap grow) st with
   |some t=>(match Hx t with|some l=>.ok (.str l) st|none=>.bad)
   |_=>.bad)
 |_,_=>.bad
def G9 (P:Program)(c:CC)(src dst:TypeId):Prop:=
 match c with
 | .toInt k=>P.underlying dst=some (.int k)/\∃d,P.underlying src=some d
 | .same=>P.underlying dst=some .string/\P.underlying src=some .string
 | .bytesOf e=>P.underlying dst=some (.slice e)/\P.underlying e=some (.int .u8)/\P.underlying src=some .string
 | .strOf=>∃e,P.underlying src=some (.slice e)/\P.underlying e=some (.int .u8)/\P.underlying dst=some .string
def Jm (l:List Int):∀s:ByteArray,l.foldl (λr n=>r.push (UInt8.ofNat n.toNat)) s=⟨s.data++(l.map λn=>UInt8.ofNat n.toNat).toArray⟩:=by
 induction l with
 |nil=>intro s;simp
 |cons a l ih=>
  intro s;rw[List.foldl_cons,ih]
  congr 1
  apply Array.ext';simp[ByteArray.push]
def Js {l:List UInt8}{vs:List Value}(h:eF ρ (l.map bP) vs):vs=(l.map λx:UInt8=>(x.toNat:Int)).map (Value.int .u8):=by
 have:=(VR.Ek h).tr;simp only[Value.agg.injEq]at this;have:=congrArg Array.toList this;simp only[]at this;rw[this,aFN];rfl
def FE {c:CC}{src dst:TypeId}{x:CV}{x':Value}(h:dy c x st=.ok v st')(hw:WR ρ st w)(hx:VR ρ x x')(hf:G9 P c src dst):
 bE P (convert src dst x') ρ st w v st':=by
 unfold dy at h
 split at h
 .obtain⟨h1,d,h2⟩:=hf;cases h;cases hx;refine bE.still hw ?_ (.int _ _);simp only[convert,Sem.run_bind,aDC h2,aDC h1,Result.andThen_ok];cases d<;>simp[Conv.intToInt]
 .obtain⟨h1,h2⟩:=hf;cases h;cases hx;refine bE.still hw ?_ (.str _);simp[convert,aDC h2,aDC h1]
 .rename_i e l;obtain⟨h1,h2,h3⟩:=hf;cases h;cases hx
  let cap:=(Question.appendCap l.length 0 e).cut (w.tape w.drawn (.appendCap l.length 0 e))
  have GC:l.length<=cap:=by show l.length<=l.length+_;omega
  let o:Obj:=.cells (((gI l).data.map λb=>Value.int .u8 b.toNat)++Array.replicate (cap-l.length) (.int .u8 0)) e (cap,cap+1)
  have sh:((gI l).data.map λb=>Value.int .u8 b.toNat).toList=(l.map λx:UInt8=>Value.int .u8 (x.toNat:Int)):=by
   simp[gI]
  have hsz:(((gI l).data.map λb=>Value.int .u8 b.toNat)++Array.replicate (cap-l.length) (Value.int .u8 0)).size=cap:=by
   have:(gI l).data.size=l.length:=kN l;simp[this];omega
  have hb:∀ρ,BR ρ (.cells (l.map bP) e true) o cap:=λρ=>by
   have hs:(l.map bP).length=l.length:=rq
   have:=BR.cells (ρ:=ρ) (l.map bP) e true (((gI l).data.map λb=>Value.int .u8 b.toNat)++Array.replicate (cap-l.length) (.int .u8 0)) cap (cap+1) (by rw[hs,hsz];exact GC)
    (by
     rw[Array.toList_append,sh,hs];rw[aEP rq];exact eF.bytes ρ l)
    (λk hk=>by rw[hsz]at hk;omega) (λh=>by cases h)
   rw[hsz]at this;exact this
  have ha:=bh.new (hw.DV (w':={w with drawn:=w.drawn+1}) rfl) (hb (ρ.set st.nx (w.heap.size,cap)));have hd:=bh.draw hw (w.drawn+1);refine⟨.slice (some ⟨w.heap.size,0,none⟩) l.length cap,_,_,?_,.nN _ _ 0 _ _ cap 1 _ _ ha.2 pX (aDt _) GC (λ_=>rfl) pX,hd.trans ha.1⟩;have hs:=kN l;simp only[convert,Sem.run_bind,aDC h3,aDC h1,aDC h2,Result.andThen_ok,Conv.stringToBytes,run_choose,hs];simp only[Question.forced,aDp,aDE,Result.andThen_ok,newRow,Sem.run_bind,run_newObj,Sem.run_pure]
  have hsh:({heap:=w.heap.push (.cells (((gI l).data.map λb=>Value.int .u8 b.toNat)++Array.replicate (cap-l.length) (.int .u8 0)) e),tape:=w.tape,drawn:=w.drawn+1,os:=w.os,output:=w.output}:World).shape? w.heap.size=some (e,cap):=by
   simp only[World.shape?,Array.getElem?_push_size,hsz]
  simp only[markStringish,Sem.run_bind,run_shape,Result.andThen_ok];rw[show(Question.appendCap l.length 0 e).cut (w.tape w.drawn (Question.appendCap l.length 0 e))=cap from rfl,hsh];simp only[run_freeze,Result.andThen_ok]
  congr 1
  simp only[World.freeze,Nat.succ_ne_zero,aDE,World.mk.injEq,and_true];apply Array.ext
  .simp
  .intro k h1 h2;simp only[Array.getElem_modify,Array.getElem_push]
   by_cases hk:k=w.heap.size
   .subst hk;simp[o]
   .have:k<w.heap.size:=by simp at h2;omega
    simp[this,aEr hk]
 .obtain⟨e,h1,h2,h3⟩:=hf;cases h;cases hx;refine bE.still hw ?_ (.str []);rw[run_convert_bytes_string w src dst e none 0 0 h1 h2 h3]
  rfl
 .rename_i b off len cap grow;obtain⟨e,h1,h2,h3⟩:=hf;cases hs:dD 1 len (.slice b off len cap grow) st with
  |none=>rw[hs]at h;cases h
  |some t=>
   rw[hs]at h;obtain⟨vs,g1,g2,g3⟩:=l4 (P:=P) hs (λ_ h _=>by cases h) hw hx;obtain⟨r,sz,dA,fm,rfl,hr,_⟩:=hx.eI;have Qg:=g3 w rfl;simp only[Builtin.firstCells,aEQ]at Qg;dsimp only at h;cases hl:Hx t with
   |none=>rw[hl]at h;cases h
   |some l=>
    rw[hl]at h;cases h;have hv:=Js (by rw[vo hl]at g1;exact g1);rw[hv]at Qg;refine bE.still hw ?_ (.str l);rw[run_convert_bytes_string w src dst e _ _ _ h1 h2 h3,run_bytesToString w _ _ _ _ Qg,Jm]
    congr 2
    unfold gI
    congr 1
    apply Array.ext';simp[aFN,Function.comp_def]
 .cases h
end
section
variable {x:CV}{x':Value}{n:Nat}{lr ff:Option Value}{t e:TypeId}{i:CV}{fs:Array Field}{f:Field}{ti:TypeInfo}{u:TypeDesc}{i':Value}
section
variable {P:Program} {ρ:Ren} {st st':St} {w:World} {v:CV}
def Eg (x:Option CV)(ZS y:Nat):Option Nat:=
 match x with
 |none=>some ZS
 |some (.int _ (.ofNat n))=>bz (Nat.ble n y) (some n) none
 |_=>none
def jD {ZS y:Nat}(h:Eg (some x) ZS y=some n)(hx:VR ρ x x'){Y:Nat}(hY:y<=Y)(code:BoundsCode):
 (Instr.sliceBound x' Y code).run P w=.ok n w/\n<=y:=by
 unfold Eg at h
 split at h
 .rename_i e;cases e
 .rename_i k m e;cases e;simp only[aO,aDW]at h
  split at h
  .rename_i hle;cases h;cases hx;refine⟨?_,hle⟩;have h1:(0:Int)<=Int.ofNat n/\Int.ofNat n<=(Y:Int):=⟨aFE _,by show(n:Int)<=Y;omega⟩;simp only[Instr.sliceBound,asIntOf,Sem.run_bind,Sem.run_pure,Result.andThen_ok,Sem.run_ite,aDy h1]
   rfl
  .cases h
 .cases h
def Rp (ρ:Ren)(x:Option CV)(x':Option Value):Prop:=match x,x' with|none,none=>True|some x,some x'=>VR ρ x x'|_,_=>False
def nw (lo hi:Option CV)(len cap:Nat):Option (Nat×Nat):=
 match Eg hi len cap with
 |some h=>(match Eg lo 0 h with|some l=>some (l,h)|none=>none)
 |none=>none
def ni {isSlice:Bool}{lo hi:Option CV}{len cap fm l h:Nat}(hb:nw lo hi len cap=some (l,h))(h1:Rp ρ lo lr)(h2:Rp ρ hi ff)(hc:cap<=fm)
 (hl:hi=none->len<=cap):(Instr.sliceBounds isSlice len fm lr ff none).run P w=.ok (l,h,fm) w/\l<=h/\h<=cap:=by
 unfold nw at hb;cases e1:Eg hi len cap with
 |none=>rw[e1]at hb;cases hb
 |some h0=>
  rw[e1]at hb;cases e2:Eg lo 0 h0 with
  |none=>dsimp only at hb;rw[e2]at hb;cases hb
  |some l0=>
   dsimp only at hb;rw[e2]at hb;cases hb
   have H:h<=cap:=by
    cases hi with
    |none=>cases e1;exact hl rfl
    |some x=>cases ff with
     |none=>exact h2.elim
     |some x'=>exact(jD (P:=P) (w:=w) e1 h2 (aDt _) .index).2
   have L:l<=h:=by
    cases lo with
    |none=>cases e2;omega
    |some x=>cases lr with
     |none=>exact h1.elim
     |some x'=>exact(jD (P:=P) (w:=w) e2 h1 (aDt _) .index).2
   refine⟨?_,L,H⟩;cases hi with
   |none=>
    cases ff with
    |some _=>exact h2.elim
    |none=>
     cases e1;cases lo with
     |none=>cases lr with
      |some _=>exact h1.elim
      |none=>cases e2;simp[Instr.sliceBounds]
     |some x=>cases lr with
      |none=>exact h1.elim
      |some x'=>simp[Instr.sliceBounds,(jD (P:=P) (w:=w) e2 h1 (aDt _) .sliceB).1]
   |some y=>
    cases ff with
    |none=>exact h2.elim
    |some y'=>
     have E1:=λcode=>(jD (P:=P) (w:=w) e1 h2 hc code).1;cases lo with
     |none=>cases lr with
      |some _=>exact h1.elim
      |none=>cases e2;cases isSlice<;>simp[Instr.sliceBounds,E1]
     |some x=>cases lr with
      |none=>exact h1.elim
      |some x'=>cases isSlice<;>simp[Instr.sliceBounds,E1,(jD (P:=P) (w:=w) e2 h1 (aDt _) .sliceB).1]
def kR (x:CV)(lo hi:Option CV)(st:St):OR:=
 match x with
 | .str s=>(match nw lo hi s.length s.length with|some (l,h)=>.ok (.str ((s.drop l).take (h-l))) st|none=>.bad)
 |_=>.bad
def vq (s:List UInt8)(l h:Nat):(gI s).extract l h=gI ((s.drop l).take (h-l)):=by
 unfold gI;apply ByteArray.ext;rw[ByteArray.data_extract];apply Array.ext';simp only[Array.toList_extract,List.extract_eq_take_drop]
def yg {lo hi:Option CV}(h:kR x lo hi st=.ok v st')(hw:WR ρ st w)(hx:VR ρ x x')(h1:Rp ρ lo lr)(h2:Rp ρ hi ff)
 (hu:P.underlying t=some .string):bE P (Instr.sliceAt t x' lr ff none) ρ st w v st':=by
 unfold kR at h
 split at h
 .rename_i s
  split at h
  .rename_i l k hb;cases h;cases hx;obtain⟨b1,b2,b3⟩:=ni (P:=P) (w:=w) (isSlice:=false) hb h1 h2 (aDt _) (λ_=>aDt _);refine bE.still hw (v':=.string ((gI s).extract l k)) ?_ (by rw[vq];exact .str _);have e:=kN s;simp[Instr.sliceAt,aDC hu,Instr.slice,e,b1]
  .cases h
 .cases h
def aN (size:Nat)(x:CV)(lo hi:Option CV)(st:St):OR:=
 match x with
 | .ae=>(match nw lo hi 0 0 with|some _=>.ok .ae st|none=>.bad)
 | .slice b off len cap grow=>bz (Nat.ble len cap) (match nw lo hi len cap with
   |some (l,h)=>ot (Nat.sub h l) λn=>ot (Nat.sub cap l) λc=>
    bz (Bool.and (Nat.beq grow 0) (Nat.beq l cap)) (.ok (.slice b off n c grow) st) (ot (Nat.add off (Nat.mul l size)) λo=>bz (Bool.or (Nat.beq grow 0) (Nat.beq grow size)) (.ok (.slice b o n c grow) st) .bad)
   |none=>.bad) .bad
 |_=>.bad
def zt {size:Nat}{lo hi:Option CV}(h:aN size x lo hi st=.ok v st')(hw:WR ρ st w)(hx:VR ρ x x')(h1:Rp ρ lo lr)(h2:Rp ρ hi ff)
 (hu:P.underlying t=some (.slice e)) (hs:(Go.sizeOf e).run P w=.ok size w):bE P (Instr.sliceAt t x' lr ff none) ρ st w v st':=by
 unfold aN at h
 split at h
 .split at h
  .rename_i lh hb;obtain⟨l,k⟩:=lh;cases h;cases hx;obtain⟨b1,b2,b3⟩:=ni (P:=P) (w:=w) (isSlice:=true) hb h1 h2 (aDt _) (λ_=>aDt _);have hk:k=0:=by omega
   have hl:l=0:=pX
   subst hk;subst hl;refine bE.still hw ?_ .ae;simp[Instr.sliceAt,aDC hu,Instr.slice,b1,hs]
  .cases h
 .rename_i b off len cap grow;rw[aO]at h
  split at h
  rotate_left
  .cases h
  rename_i YN;rw[aDW]at YN
  split at h
  .rename_i l k hb;rw[dH,dH]at h;obtain⟨r,sz,dA,fm,rfl,hr,c1,c2,c3,c4⟩:=hx.eI;obtain⟨b1,b2,b3⟩:=ni (P:=P) (w:=w) (isSlice:=true) hb h1 h2 c2 (λ_=>YN)
   have jM:(Instr.sliceAt t (.slice (some ⟨r,dA,none⟩) len fm) lr ff none).run P w=
    .ok (.slice (if fm=l then some ⟨r,dA,none⟩else some ⟨r,dA+l*size,none⟩) (k-l) (fm-l)) w:=by
    simp[Instr.sliceAt,aDC hu,Instr.slice,b1,hs,kz]
   simp only[aO,aDK,aEu,aDZ,dH]at h
   split at h
   .rename_i hg;obtain⟨hg,hl⟩:=hg;cases h;obtain⟨e1,e2⟩:=c3 hg;subst hg;subst e1;subst e2;subst hl;refine bE.still hw jM ?_;rw[aDy rfl];exact .slice _ _ _ _ r sz hr
   .rename_i hng
    split at h
    .rename_i hg
     .cases h
      by_cases hz:grow=0
      .obtain⟨e1,e2⟩:=c3 hz;subst hz;subst e1;subst e2;refine bE.still hw jM ?_;rw[aDv (λe=>hng ⟨rfl,e.symm⟩)];exact .slice _ _ _ _ r sz hr
      .have hgs:grow=size:=by rcases hg with hg|hg;exact absurd hg hz;exact hg
       obtain⟨d1,d2⟩:=c4 pX;refine bE.still hw jM ?_
       have key:∀o',o'+(fm-l)*grow<=sz->(0<cap-l->o'=off+l*size)->
        VR ρ (.slice b (off+l*size) (k-l) (cap-l) grow) (.slice (some ⟨r,o',none⟩) (k-l) (fm-l)):=λo' ho1 ho2=>
        .nN _ _ o' _ _ (fm-l) grow r sz hr pX pX pX ho2 ho1
       split
       .rename_i qC;exact key dA (by rw[qC,Nat.sub_self,Nat.zero_mul];omega) pX
       .refine key (dA+l*size) ?_ (λhp=>by rw[c1 pX])
        have:l*size+(fm-l)*grow=fm*grow:=by
         rw[hgs,<-aEz];congr 1;omega
        omega
    .cases h
  .cases h
 .cases h
def iD (size:Nat)(x:CV)(lo:Option CV)(hi mx:CV)(st:St):OR:=
 match x with
 | .slice b off len cap grow=>(match Eg (some mx) 0 cap with
   |some m=>(match nw lo (some hi) len m with
    |some (l,h)=>bz (Bool.or (Nat.beq grow 0) (Nat.ble (Nat.succ l) cap)) (ot (Nat.sub h l) λn=>ot (Nat.sub m l) λc=>bz (Nat.beq m l) (.ok (.slice b off n c 0) st) (ot (Nat.add off (Nat.mul l size)) λo=>.ok (.slice b o n c 0) st)) .bad
    |none=>.bad)
   |none=>.bad)
 | .ae=>(match Eg (some mx) 0 0 with
   |some m=>(match nw lo (some hi) 0 m with|some _=>.ok .ae st|none=>.bad)
   |none=>.bad)
 |_=>.bad
def A0 {size:Nat}{lo:Option CV}{hi mx:CV}{ff mx':Value}(h:iD size x lo hi mx st=.ok v st')(hw:WR ρ st w)(hx:VR ρ x x')(h1:Rp ρ lo lr)(h2:VR ρ hi ff)(h3:VR ρ mx mx')
 (hu:P.underlying t=some (.slice e)) (hs:(Go.sizeOf e).run P w=.ok size w):bE P (Instr.sliceAt t x' lr (some ff) (some mx')) ρ st w v st':=by
 unfold iD at h
 split at h
 .rename_i b off len cap grow
  split at h
  .rename_i m hm
   split at h
   .rename_i l k hb;obtain⟨r,sz,dA,fm,rfl,hr,c1,c2,c3,c4⟩:=hx.eI;obtain⟨m1,m2⟩:=jD (P:=P) (w:=w) hm h3 c2 .slice3Acap;unfold nw at hb;cases e1:Eg (some hi) len m with
    |none=>rw[e1]at hb;cases hb
    |some h0=>
     rw[e1]at hb;cases e2:Eg lo 0 h0 with
     |none=>dsimp only at hb;rw[e2]at hb;cases hb
     |some l0=>
      dsimp only at hb;rw[e2]at hb;cases hb;obtain⟨k1,k2⟩:=jD (P:=P) (w:=w) e1 h2 (aDt _) .slice3B
      have hl:l<=k/\(Instr.sliceBounds true len fm lr (some ff) (some mx')).run P w=.ok (l,k,m) w:=by
       cases lo with
       |none=>cases lr with
        |some _=>exact h1.elim
        |none=>cases e2;exact⟨pX,by simp[Instr.sliceBounds,m1,k1]⟩
       |some y=>cases lr with
        |none=>exact h1.elim
        |some y'=>
         obtain⟨l1,l2⟩:=jD (P:=P) (w:=w) e2 h1 (aDt _) .slice3C;exact⟨l2,by simp[Instr.sliceBounds,m1,k1,l1]⟩
      have jM:(Instr.sliceAt t (.slice (some ⟨r,dA,none⟩) len fm) lr (some ff) (some mx')).run P w=
       .ok (.slice (if m=l then some ⟨r,dA,none⟩else some ⟨r,dA+l*size,none⟩) (k-l) (m-l)) w:=by
       simp[Instr.sliceAt,aDC hu,Instr.slice,hl.2,hs,kz]
      simp only[aO,aEu,aDZ,aDW,dH]at h
      split at h
      .rename_i hg
       have ho:dA=off:=by
        rcases hg with hg|hg
        .exact(c3 hg).2
        .exact c1 pX
       subst ho
       split at h
       .rename_i HE;cases h;refine bE.still hw jM ?_;rw[aDy HE];exact .slice _ _ _ _ r sz hr
       .rename_i HE;cases h;refine bE.still hw jM ?_;rw[aDv HE];exact .slice _ _ _ _ r sz hr
      .cases h
   .cases h
  .cases h
 .split at h
  .rename_i m hm
   split at h
   .rename_i lh hb;obtain⟨l,k⟩:=lh;cases h;cases hx;obtain⟨m1,m2⟩:=jD (P:=P) (w:=w) hm h3 (aDt 0) .slice3Acap;have Gm:m=0:=by omega
    subst Gm;unfold nw at hb;cases e1:Eg (some hi) 0 0 with
    |none=>rw[e1]at hb;cases hb
    |some h0=>
     rw[e1]at hb;cases e2:Eg lo 0 h0 with
     |none=>dsimp only at hb;rw[e2]at hb;cases hb
     |some l0=>
      dsimp only at hb;rw[e2]at hb;cases hb;obtain⟨k1,k2⟩:=jD (P:=P) (w:=w) e1 h2 (aDt _) .slice3B;have M8:k=0:=pX
      subst M8
      have hl:l<=0/\(Instr.sliceBounds true 0 0 lr (some ff) (some mx')).run P w=.ok (l,0,0) w:=by
       cases lo with
       |none=>cases lr with
        |some _=>exact h1.elim
        |none=>cases e2;exact⟨pX,by simp[Instr.sliceBounds,m1,k1]⟩
       |some y=>cases lr with
        |none=>exact h1.elim
        |some y'=>
         obtain⟨l1,l2⟩:=jD (P:=P) (w:=w) e2 h1 (aDt _) .slice3C;exact⟨l2,by simp[Instr.sliceBounds,m1,k1,l1]⟩
      have hl0:l=0:=pX
      subst hl0;refine bE.still hw ?_ .ae;simp[Instr.sliceAt,aDC hu,Instr.slice,hl.2,hs]
   .cases h
  .cases h
 .cases h
def bR (n size:Nat)(x:CV)(lo hi:Option CV)(st:St):OR:=
 match x with
 | .ptr b off=>(match nw lo hi n n with
   |some (l,h)=>ot (Nat.sub h l) λk=>ot (Nat.sub n l) λc=>bz (Nat.beq n l) (.ok (.slice b off k c 0) st) (ot (Nat.add off (Nat.mul l size)) λo=>.ok (.slice b o k c 0) st)
   |none=>.bad)
 |_=>.bad
def yh {size:Nat}{lo hi:Option CV}(h:bR n size x lo hi st=.ok v st')(hw:WR ρ st w)(hx:VR ρ x x')(h1:Rp ρ lo lr)(h2:Rp ρ hi ff)
 (hu:P.underlying t=some (.array n e)) (hs:(Go.sizeOf e).run P w=.ok size w):bE P (Instr.sliceAt t x' lr ff none) ρ st w v st':=by
 unfold bR at h
 split at h
 .rename_i b off
  split at h
  .rename_i l k hb;cases hx with
   |ptr _ _ r sz hr=>
    obtain⟨b1,b2,b3⟩:=ni (P:=P) (w:=w) (isSlice:=false) hb h1 h2 (aDt _) (λ_=>aDt _)
    have jM:(Instr.sliceAt t (.pointer (some ⟨r,off,none⟩)) lr ff none).run P w=
     .ok (.slice (some (if n=l then ⟨r,off,none⟩else ⟨r,off+l*size,none⟩)) (k-l) (n-l)) w:=by
     simp[Instr.sliceAt,aDC hu,Instr.sureAddr,b1,hs,kz]
    simp only[aO,aDZ,dH]at h
    split at h
    .rename_i Gh;cases h;refine bE.still hw jM ?_;rw[aDy Gh];exact .slice _ _ _ _ r sz hr
    .rename_i Gh;cases h;refine bE.still hw jM ?_;rw[aDv Gh];exact .slice _ _ _ _ r sz hr
  .cases h
 .cases h
def oJ (n:Nat)(x:CV)(st:St):OR:=
 match x with| .slice b off len cap grow=>bz (Bool.and (Nat.ble n len) (Bool.or (Nat.beq grow 0) (Bool.and (Nat.ble 1 cap) (Nat.ble len cap)))) (.ok (.ptr b off) st) .bad|_=>.bad
def Fy (h:oJ n x st=.ok v st')(hw:WR ρ st w)(hx:VR ρ x x')(hu:P.underlying t=some (.array n e)):bE P (Instr.arrayAt t x') ρ st w v st':=by
 unfold oJ at h
 split at h
 .rename_i b off len cap grow;simp only[aO,aDK,aEu,aDZ,aDW]at h
  split at h
  .rename_i hg;cases h;obtain⟨r,sz,dA,fm,rfl,hr,c1,c2,c3,c4⟩:=hx.eI
   have ho:dA=off:=by
    rcases hg.2 with hg|hg
    .exact(c3 hg).2
    .exact c1 pX
   subst ho;refine bE.still hw ?_ (.ptr _ _ r sz hr);have:¬len<n:=pX
   simp[Instr.arrayAt,aDC hu,this]
  .cases h
 .cases h
def an (off:Nat)(x:CV)(st:St):OR:=match x with| .ptr b o=>ot (Nat.add o off) λo=>.ok (.ptr b o) st|_=>.bad
def wR {i:Nat}{off:Nat}(h:an off x st=.ok v st')(hw:WR ρ st w)(hx:VR ρ x x')(hu:P.underlying t=some (.struct fs))
 (hf:fs[i]?=some f) (ho:f.offset=off) (hs:(Go.sizeOf f.type).run P w=.ok n w) (hn:n≠0):bE P (Instr.fieldAt t x' i) ρ st w v st':=by
 unfold an at h
 split at h
 .rename_i b o;rw[dH]at h;cases h;cases hx with
  |ptr _ _ r sz hr=>
   refine bE.still hw ?_ (.ptr _ _ r sz hr);simp[Instr.fieldAt,aDC hu,hf,Instr.sureAddr,fieldPlace,hs,hn,kz,ho]
 .cases h
def zz (agg:Bool)(off size:Nat)(x:CV)(st:St):OR:=match x with| .agg s=>Option.rec .bad (λv=>.ok v st) (jf agg off size s)|_=>.bad
def Dr {i:Nat}(h:zz (im u) f.offset ti.size x st=.ok v st')(hw:WR ρ st w)(hx:VR ρ x x')(hu:P.underlying t=some (.struct fs))
 (hf:fs[i]?=some f) (hi:P.info? f.type=some ti) (hut:P.underlying f.type=some u):bE P (Instr.field t x' i) ρ st w v st':=by
 unfold zz at h
 split at h
 .rename_i s;cases hc:jf (im u) f.offset ti.size s with
  |none=>rw[hc]at h;cases h
  |some y=>
   rw[hc]at h;cases h;cases hx with
   |agg _ l hl hh=>
    obtain⟨y',p1,p2⟩:=iz (P:=P) (w:=w) hc ⟨hl,hh⟩ hi rfl hut rfl;refine bE.still hw ?_ p2;simp[Instr.field,aDC hu,hf,asAgg,p1]
 .cases h
def fL (n size:Nat)(x i:CV)(st:St):OR:=
 match x,i with| .ptr b o,.int _ (.ofNat j)=>bz (Nat.ble (Nat.succ j) n) (ot (Nat.add o (Nat.mul j size)) λo=>.ok (.ptr b o) st) .bad|_,_=>.bad
def cQ (size:Nat)(x i:CV)(st:St):OR:=
 match x,i with| .slice b o len cap grow,.int _ (.ofNat j)=>bz (Bool.and (Nat.ble (Nat.succ j) len) (Bool.or (Nat.beq grow 0) (Nat.ble len cap))) (ot (Nat.add o (Nat.mul j size)) λo=>.ok (.ptr b o) st) .bad|_,_=>.bad
def A3 {size:Nat}(h:fL n size x i st=.ok v st')(hw:WR ρ st w)(hx:VR ρ x x')(hi:VR ρ i i')(hu:P.underlying t=some (.array n e))
 (hs:(Go.sizeOf e).run P w=.ok size w):bE P (Instr.indexAt t x' i') ρ st w v st':=by
 unfold fL at h
 split at h
 .rename_i b o k j;simp only[aO,aDW,dH]at h
  split at h
  .rename_i hj;cases h;cases hi;cases hx with
   |ptr _ _ r sz hr=>
    refine bE.still hw ?_ (.ptr _ _ r sz hr);have h1:(0:Int)<=Int.ofNat j/\Int.ofNat j<(n:Int):=⟨aFE _,by show(j:Int)<n;omega⟩;simp only[Instr.indexAt,asIntOf,Sem.run_bind,Sem.run_pure,Result.andThen_ok,aDC hu,Instr.sureAddr,Sem.run_ite,aDy h1,hs,kz]
    rfl
  .cases h
 .cases h
def Dq {size:Nat}(h:cQ size x i st=.ok v st')(hw:WR ρ st w)(hx:VR ρ x x')(hi:VR ρ i i')(hu:P.underlying t=some (.slice e))
 (hs:(Go.sizeOf e).run P w=.ok size w):bE P (Instr.indexAt t x' i') ρ st w v st':=by
 unfold cQ at h
 split at h
 .rename_i b o len cap grow k j;simp only[aO,aDK,aEu,aDZ,aDW,dH]at h
  split at h
  .rename_i hj;cases h;cases hi;obtain⟨r,sz,dA,fm,rfl,hr,c1,c2,c3,c4⟩:=hx.eI
   have ho:dA=o:=by
    rcases hj.2 with hg|hg
    .exact(c3 hg).2
    .exact c1 pX
   subst ho;refine bE.still hw ?_ (.ptr _ _ r sz hr);have h1:(0:Int)<=Int.ofNat j/\Int.ofNat j<(len:Int):=⟨aFE _,by show(j:Int)<len;omega⟩;simp only[Instr.indexAt,asIntOf,Sem.run_bind,Sem.run_pure,Result.andThen_ok,aDC hu,Sem.run_ite,aDy h1,hs,kz]
   rfl
  .cases h
 .cases h
def oK (x i:CV)(st:St):OR:=
 match x,i with| .str l,.int _ (.ofNat j)=>(match l[j]? with|some b=>.ok (bP b) st|none=>.bad)|_,_=>.bad
def A2 (h:oK x i st=.ok v st')(hw:WR ρ st w)(hx:VR ρ x x')(hi:VR ρ i i')(hu:P.underlying t=some .string):bE P (Instr.index t x' i') ρ st w v st':=by
 unfold oK at h
 split at h
 .rename_i l k j
  split at h
  .rename_i b hj;cases h;cases hi;cases hx;refine bE.still hw ?_ (.int _ _);have h1:(0:Int)<=Int.ofNat j:=aFE _;have hlt:=(aDD.1 hj).1
   have zY:(gI l)[(Int.ofNat j).toNat]?=some b:=by
    show(gI l)[j]?=_;rw[getElem?_pos (gI l) j (by rw[kN];exact hlt)];rw[<-hj,aDu hlt];rfl
   simp only[Instr.index,asIntOf,Sem.run_bind,Sem.run_pure,Result.andThen_ok,aDC hu,aDy h1,zY]
  .cases h
 .cases h
def vG (n size:Nat)(agg:Bool)(x i:CV)(st:St):OR:=
 match x,i with| .agg s,.int _ (.ofNat j)=>bz (Nat.ble (Nat.succ j) n) (Option.rec .bad (λv=>.ok v st) (jf agg (Nat.mul j size) size s)) .bad|_,_=>.bad
def A4 (h:vG n ti.size (im u) x i st=.ok v st')(hw:WR ρ st w)(hx:VR ρ x x')(hi:VR ρ i i')(hu:P.underlying t=some (.array n e))
 (he:P.info? e=some ti) (M5:P.underlying e=some u):bE P (Instr.index t x' i') ρ st w v st':=by
 unfold vG at h
 split at h
 .rename_i s k j;simp only[aO,aDW]at h
  split at h
  .rename_i hj;cases hc:jf (im u) (Nat.mul j ti.size) ti.size s with
   |none=>rw[hc]at h;cases h
   |some y=>
    rw[hc]at h;cases h;cases hi;cases hx with
    |agg _ l hl hh=>
     obtain⟨y',p1,p2⟩:=iz (P:=P) (w:=w) hc ⟨hl,hh⟩ he rfl M5 rfl;refine bE.still hw ?_ p2;have h1:(0:Int)<=Int.ofNat j/\Int.ofNat j<(n:Int):=⟨aFE _,by show(j:Int)<n;omega⟩;have h2:(Go.sizeOf e).run P w=.ok ti.size w:=by simp[Go.sizeOf,typeInfo,he]
     simp only[Instr.index,asIntOf,Sem.run_bind,Sem.run_pure,Result.andThen_ok,aDC hu,Sem.run_ite,aDy h1,h2];exact p1
  .cases h
 .cases h
def uB (t:TypeId)(x:CV)(st:St):OR:=.ok (.iface t x) st
def Dp (h:uB t x st=.ok v st')(hw:WR ρ st w)(hx:VR ρ x x')(hc:P.concrete t=true):bE P (Instr.makeInterface t x') ρ st w v st':=by
 cases h;exact bE.still hw (run_makeInterface w t x' hc) (.iface t x x' hx)
end
end
section
variable {es:List (CV×CV×Nat)}{clock r sz:Nat}{t ty:TypeId}{x:CV}{x':Value}{e:TypeId}{i:TypeInfo}{z:List CV}{z':Value}
def cJ (c:Nat)(z:List CV):List CV:=(List.replicate c z).flatten
def pB (z:Array Value):∀c,((List.range (c*z.size)).map λi=>z[i%z.size]!)=(List.replicate c z.toList).flatten:=by
 intro c
 induction c with
 |zero=>simp
 |succ c ih=>
  rw[aFz,aES,<-ih,Nat.succ_mul,aGg,List.range_add,aEC,aFN]
  congr 1
  .apply List.ext_getElem
   .simp
   .intro i h1 h2;simp only[aEt,List.length_range]at h1;simp[aFn h1,h1]
  .apply List.map_congr_left;intro i _;simp
section
variable {P:Program} {ρ:Ren} {st st':St} {w:World} {v:CV}
def eF.flatten {l:List CV}{l':List Value}(h:eF ρ l l')(c:Nat):eF ρ (List.replicate c l).flatten (List.replicate c l').flatten:=by
 induction c with
 |zero=>exact eF.nil ρ
 |succ c ih=>rw[aFz,aFz,aES,aES];exact h.app ih
inductive MQ where
 |str|slice|map|cap
 |const (n:Nat)
def bj (k:MQ)(x:CV)(st:St):OR:=
 match k,x with
 | .const n,_=>yj .i64 st n
 | .str,.str l=>yj .i64 st l.length
 | .slice,.ae=>yj .i64 st 0
 | .slice,.slice _ _ len _ _=>yj .i64 st len
 | .slice,.qd=>yj .i64 st 0
 | .map,.fF=>yj .i64 st 0
 | .map,.map b=>(match st.m.g b with|some (.map es _)=>ot es.length (yj .i64 st)|some (.lmap es)=>ot es.length (yj .i64 st)|_=>.bad)
 | .cap,.ae=>yj .i64 st 0
 | .cap,.slice _ _ _ cap grow=>bz (Nat.beq grow 0) (yj .i64 st cap) (.ok (.gS cap) st)
 |_,_=>.bad
def Ka (P:Program)(k:MQ)(t:TypeId):Prop:=
 match k with
 | .str=>P.underlying t=some .string
 | .slice=>∃e,P.underlying t=some (.slice e)
 | .map=>∃k e,P.underlying t=some (.map k e)
 | .cap=>False
 | .const n=>(∃e,P.underlying t=some (.array n e))\/∃a e,P.underlying t=some (.pointer a)/\P.underlying a=some (.array n e)
def WR.map {b:Nat}(h:WR ρ st w)(h1:st.m.g b=some (.map es clock))(h2:ρ b=some (r,sz)):
 ∃es':List MapEntry,w.heap[r]?=some (.map es'.toArray clock)/\es.length=es'.length/\
  ∀(i:Nat) (e:CV×CV×Nat) (e':MapEntry),es[i]?=some e->es'[i]?=some e'->VR ρ e.1 e'.key/\VR ρ e.2.1 e'.val/\e.2.2=e'.born:=by
 obtain⟨o,e2,e3⟩:=h.at' b _ r sz h1 h2;cases e3 with
 |map _ _ es' hl h=>exact⟨es',e2,hl,h⟩
def WR.lmap {b:Nat}(h:WR ρ st w)(h1:st.m.g b=some (.lmap es))(h2:ρ b=some (r,sz)):
 ∃(l:List (CV×CV×Nat)) (clock:Nat) (es':List MapEntry),w.heap[r]?=some (.map es'.toArray clock)/\l.Perm es/\(∀e∈es,∃n:Int,e.1=.int .i64 n)/\(es.map (·.1)).Nodup/\Go.MapKept.Stamped es'.toArray clock/\l.length=es'.length/\
  ∀(i:Nat) (e:CV×CV×Nat) (e':MapEntry),l[i]?=some e->es'[i]?=some e'->VR ρ e.1 e'.key/\VR ρ e.2.1 e'.val:=by
 obtain⟨o,e2,e3⟩:=h.at' b _ r sz h1 h2;cases e3 with
 |lmap _ l clock es' hp hi hn hs hl h=>exact⟨l,clock,es',e2,hp,hi,hn,hs,hl,h⟩
def dE {es:Array MapEntry}(h:w.heap[r]?=some (.map es clock)):(getObj r).run P w=.ok (.map es clock) w:=by
 simp only[getObj,Sem.run,h]
def IC {k:MQ}(h:bj k x st=.ok v st')(hw:WR ρ st w)(hx:VR ρ x x')(hf:Ka P k t)(ats:Array TypeId)(mM:ats[0]?=some t):
 bE P (Builtin.len_ ats ty #[x']) ρ st w v st':=by
 unfold bj at h
 split at h
 .cases h;refine bE.still hw ?_ (.int _ _);rcases hf with⟨e,hf⟩|⟨a,e,hf,TP⟩
  .simp only[Builtin.len_,mM,aEI,aDo,Sem.run_bind,aDC hf,Result.andThen_ok]
   rfl
  .simp only[Builtin.len_,mM,aEI,aDo,Sem.run_bind,aDC hf,aDC TP,Result.andThen_ok]
   rfl
 .cases h;cases hx;refine bE.still hw ?_ (.int _ _);have hf':P.underlying t=some .string:=hf;simp[Builtin.len_,mM,aDC hf',goInt]
 .cases h;cases hx;obtain⟨e,hf⟩:=hf;refine bE.still hw ?_ (.int _ _);simp[Builtin.len_,mM,aDC hf,goInt]
 .cases h;obtain⟨e,hf⟩:=hf;obtain⟨r,sz,dA,fm,rfl,_⟩:=hx.eI;refine bE.still hw ?_ (.int _ _);simp[Builtin.len_,mM,aDC hf,goInt]
 .cases h;cases hx;obtain⟨e,hf⟩:=hf;refine bE.still hw ?_ (.int _ _);simp[Builtin.len_,mM,aDC hf,goInt]
 .cases h;cases hx;obtain⟨e,e2,hf⟩:=hf;refine bE.still hw ?_ (.int _ _);simp[Builtin.len_,mM,aDC hf,goInt]
 .rename_i b;obtain⟨e,e2,hf⟩:=hf
  split at h
  .rename_i es clock hm;rw[dH]at h;cases h;cases hx with
   |map _ r sz hr=>
    obtain⟨es',h1,h2,h3⟩:=hw.map hm hr;refine bE.still hw ?_ (.int _ _);simp[Builtin.len_,mM,aDC hf,goInt,dE h1,h2]
  .rename_i es hm;rw[dH]at h;cases h;cases hx with
   |map _ r sz hr=>
    obtain⟨l,clock,es',h1,h2,_,_,_,h3,_⟩:=hw.lmap hm hr;refine bE.still hw ?_ (.int _ _);simp[Builtin.len_,mM,aDC hf,goInt,dE h1,<-h3,h2.length_eq]
  .cases h
 .exact hf.elim
 .exact hf.elim
 .cases h
def IE (h:bj .cap x st=.ok v st')(hw:WR ρ st w)(hx:VR ρ x x')(hf:P.underlying t=some (.slice e))(ats:Array TypeId)(mM:ats[0]?=some t):
 bE P (Builtin.cap_ ats ty #[x']) ρ st w v st':=by
 have e:bj .cap x st=(match (generalizing:=false) x with| .ae=>yj .i64 st 0| .slice _ _ _ cap grow=>bz (Nat.beq grow 0) (yj .i64 st cap) (.ok (.gS cap) st)|_=>.bad):=by cases x<;>rfl
 rw[e]at h
 split at h
 .cases h;cases hx;refine bE.still hw ?_ (.int _ _);simp[Builtin.cap_,mM,aDC hf,goInt]
 .rename_i b off len cap grow;obtain⟨r,sz,dA,fm,rfl,hr,c1,c2,c3,c4⟩:=hx.eI;simp only[aO,aDZ]at h
  split at h
  .rename_i hg;cases h;obtain⟨g1,_⟩:=c3 hg;subst g1;refine bE.still hw ?_ (.int _ _);simp[Builtin.cap_,mM,aDC hf,goInt]
  .cases h;refine bE.still hw (v':=.int .i64 (fm:Int)) ?_ (.gS _ _ (by exact_mod_cast c2));simp[Builtin.cap_,mM,aDC hf,goInt]
 .cases h
def qT (e bytes:Nat)(z:List CV)(l c:CV)(st:St):OR:=
 match l,c with
 | .int _ (.ofNat l),.int _ (.ofNat c)=>
   bz (Bool.and (Nat.ble l c) (Bool.and (Nat.ble (Nat.mul bytes c) 281474976710656) (Nat.ble c 9223372036854775807)))
    (.ok (.slice st.nx 0 l c 0) ⟨st.m.put st.nx (some (.cells (cJ c z) e false)),st.nx+1⟩) .bad
 |_,_=>.bad
def FA {bytes:TypeId}{l c:CV}{l' c':Value}(h:qT e bytes z l c st=.ok v st')(hw:WR ρ st w)(hl:VR ρ l l')(hc:VR ρ c c')
 (hu:P.underlying t=some (.slice e)) (hi:P.info? e=some i) (hz:i.zero=some z') (hb:i.bytes=bytes) (hsz:z'.cells.size=i.size) (wF:∀ρ,eF ρ z z'.cells.toList):
 bE P (Instr.makeSlice t l' c') ρ st w v st':=by
 unfold qT at h
 split at h
 .rename_i k1 l k2 c;simp only[aO,aDK,aDW]at h
  split at h
  .rename_i hg;cases h;cases hl;cases hc;obtain⟨g1,g2,g3⟩:=hg
   have jM:=run_make w t e i z' hu hi hz k1 k2 (l:Int) (c:Int) (aFE _) (Int.ofNat_le.2 g1) (by
    rw[hb];have:bytes*c<=281474976710656:=g2;have h4:((bytes*c:Nat):Int)<=281474976710656:=Int.ofNat_le.2 this
    rwa [Int.natCast_mul]at h4) (Int.ofNat_le.2 g3)
   have Zg:(madeCells z'.cells (c*i.size)).toList=(List.replicate c z'.cells.toList).flatten:=by
    rw[<-hsz,madeCells,aEZ,aFT];exact pB z'.cells c
   obtain⟨ρ',h1,h2,h3⟩:=bh.newRow (P:=P) (t:=e) (s:=cJ c z) (l:=(madeCells z'.cells (c*i.size)).toList) hw (λρ' _=>by
    rw[Zg];exact(wF ρ').flatten c) false
   refine⟨_,_,ρ',jM,?_,?_⟩
   .have:=VR.slice (ρ:=ρ') st.nx 0 l c w.heap.size _ h2
    simpa using this
   .rw[aEU]at h3;exact h3
  .cases h
 .cases h
inductive Ho where
 |slice|str|zeros
def cW (k:Ho)(size:Nat)(z:List CV)(x:CV)(st:St):Option (Nat×List CV):=
 match k,x with
 | .slice,.ae=>some (0,[])
 | .slice,.slice b off len cap grow=>(match dD size len (.slice b off len cap grow) st with|some s=>some (len,s)|none=>none)
 | .str,.str l=>some (l.length,l.map bP)
 | .zeros,.int _ (.ofNat n)=>bz (Nat.ble n 1099511627776) (some (n,cJ n z)) none
 |_,_=>none
def CR (P:Program)(k:Ho)(u:TypeId)(size:Nat):Prop:=
 match k with
 | .slice=>∃e,P.underlying u=some (.slice e)
 | .str=>P.underlying u=some .string/\size=1
 | .zeros=>∃j,P.underlying u=some (.int j)
def mu (elem:TypeId)(size:Nat)(zeros:Bool)(n:Nat)(il:Sem (Array Value))(base:Option Addr)(sLen sCap:Nat)(s x:Value):Sem Value:=do
 let need:=sLen+n
 if need<=sCap then
  let new<-il
  if let some a:=base then storeCells (a.add (sLen*size)) new.toList
  pure (.slice base need sCap)
 else
  if (need:Int)>IntKind.i64.max/\(zeros\/(<-typeInfo elem).bytes=0)then runtimePanic (.error "growslice: len out of range")
  if Builtin.nextslicecap need sCap*(<-typeInfo elem).bytes>2^48 then (if zeros then runtimePanic (.error "growslice: len out of range")else do
   if !(<-Builtin.mayShare size sLen n base x)then mark .noRoom
   unsupported (.resourceLimit "append: a slice or a string whose bytes no memory bears"))
  let II<-choose (.appendCap need sCap elem)
  askRoom (II*(<-typeInfo elem).bytes)
  let SS<-Builtin.firstCells size sLen s
  let new<-il
  let rest:=Builtin.zeroCells (<-zeroValue elem).cells (II-need)
  pure (.slice (some (<-newRow elem (SS++new++rest))) need II)
def Bw {k:Ho}{u size:TypeId}{n:Nat}{s:List CV}(h:cW k size z x st=some (n,s))(hw:WR ρ st w)(hx:VR ρ x x')
 (hf:CR P k u size) (hu:P.underlying t=some (.slice e)) (hi:P.info? e=some i) (hz:i.zero=some z') (hs:i.size=size) (hsz:z'.cells.size=size) (wF:∀ρ,eF ρ z z'.cells.toList) (hb:k=.zeros->i.bytes<=256):
 ∃vs zeros il,eF ρ s vs/\vs.length=n*size/\(∀w1:World,w1.heap=w.heap->il.run P w1=.ok vs.toArray w1)/\
  ∀base sLen sCap,(Builtin.append_ #[t,u] ty #[.slice base sLen sCap,x']).run P w=(mu e size zeros n il base sLen sCap (.slice base sLen sCap) x').run P w:=by
 have mY:(Go.sizeOf e).run P w=.ok size w:=by simp[Go.sizeOf,typeInfo,hi,hs]
 unfold cW at h
 split at h
 .cases h;cases hx;obtain⟨e2,hf⟩:=hf;refine⟨[],false,Builtin.firstCells size 0 (.slice none 0 0),eF.nil ρ,rq,λw1 _=>abq,λbase sLen sCap=>?_⟩;simp only[Builtin.append_,aEI,aDo,aDq,Sem.run_bind,aDC hu,aDC hf,Result.andThen_ok,mY,Sem.run_pure,Builtin.lenOf,mu,aDI,aDQ,aDp,aDE]
  rfl
 .rename_i b off len cap grow
  split at h
  .rename_i s' uh;cases h;obtain⟨e2,hf⟩:=hf;obtain⟨vs,g1,g2,g3⟩:=l4 (P:=P) uh (λ_ h _=>by cases h) hw hx;obtain⟨r,sz,dA,fm,rfl,_⟩:=hx.eI;refine⟨vs,false,_,g1,g2,g3,λbase sLen sCap=>?_⟩;simp only[Builtin.append_,aEI,aDo,aDq,Sem.run_bind,aDC hu,aDC hf,Result.andThen_ok,mY,Sem.run_pure,Builtin.lenOf,mu,aDI,aDQ,aDp,aDE]
   rfl
  .cases h
 .rename_i m;cases h;cases hx;obtain⟨hf,rfl⟩:=hf;refine⟨(m.map λy:UInt8=>Value.int .u8 (y.toNat:Int)),false,Builtin.firstCells 1 m.length (.string (gI m)),?_,rq,λw1 _=>?_,λbase sLen sCap=>?_⟩
  .exact eF.bytes ρ m
  .simp only[Builtin.firstCells,Sem.run_pure]
   congr 1
   apply Array.ext'
   have hlen:(gI m).extract 0 m.length=gI m:=by
    have h:(gI m).extract 0 (gI m).size=gI m:=ByteArray.extract_zero_size
    rwa [kN]at h
   rw[hlen];simp[gI]
  .simp only[Builtin.append_,aEI,aDo,aDq,Sem.run_bind,aDC hu,aDC hf,Result.andThen_ok,mY,Sem.run_pure,Builtin.lenOf,mu,aDI,aDQ,aDp,aDE,kN]
   rfl
 .rename_i j m;simp only[aO,aDW]at h
  split at h
  .rename_i hm;cases h;cases hx;obtain⟨j2,hf⟩:=hf
   have hn:IntKind.i64.wrap (Int.ofNat n)=n:=by
    show IntKind.i64.wrap (n:Int)=n;exact IntWalk.i64_in _ pX
   have Ry:∀w1:World,(zeroValue e).run P w1=.ok z' w1:=λw1=>WS
   refine⟨(List.replicate n z'.cells.toList).flatten,true,(if n*size=0 then pure #[]else do pure (Builtin.zeroCells (<-zeroValue e).cells n)),?_,?_,λw1 _=>?_,λbase sLen sCap=>?_⟩
   .exact(wF ρ).flatten n
   .simp[hsz]
   .split
    .rename_i h0
     have:(List.replicate n z'.cells.toList).flatten=[]:=by
      apply aDP.1;simp[hsz,h0]
     rw[this];rfl
    .simp only[Sem.run_bind,Ry,Result.andThen_ok,Sem.run_pure]
     congr 1
     apply Array.ext';rw[Builtin.zeroCells,aEZ,aFT];exact pB z'.cells n
   .have h1:¬((n:Int)<0):=by omega
    have h2:¬((n:Int)*i.bytes>2^48):=by
     have h3:n*i.bytes<=1099511627776*256:=aGf hm (hb rfl);have h4:=Int.ofNat_le.2 h3;rw[Int.natCast_mul]at h4;exact λh5=>absurd (Int.lt_of_lt_of_le h5 h4) wI
    simp only[Builtin.append_,aEI,aDo,aDq,Sem.run_bind,aDC hu,aDC hf,Result.andThen_ok,mY,Sem.run_pure,asInt,asIntOf,hn,Sem.run_ite,typeInfo,run_program,hi,
     aDv h1,aDv h2,aGb,mu,aDQ,aDJ,aDp,aDE]
    rfl
  .cases h
 .cases h
end
end
