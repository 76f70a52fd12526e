import Derived.Test.YtomffjeofpafnaaGreatDoorLimA
import Derived.Laws.BytesString
import Derived.IntWalk
namespace Lim
open Go
noncomputable section
set_option linter.defProp false
section
variable {P:Program} {ρ:Ren} {st st':St} {w:World} {v:CV}
def VR.eW {b:Nat}{off len cap grow:Nat}{x':Value}(h:VR ρ (.slice b off len cap grow) x'):
 ∃r sz dE fy,x'=.slice (some ⟨r,dE,none⟩) len fy/\ρ b=some (r,sz)/\(0<cap->dE=off)/\cap<=fy/\(grow=0->fy=cap/\dE=off)/\
  (0<grow->dE+fy*grow<=sz/\len<=cap):=by
 cases h with
 |slice _ _ _ _ r sz h=>exact⟨r,sz,off,cap,rfl,h,λ_=>rfl,aEQ _,λ_=>⟨rfl,rfl⟩,λh=>absurd h qE⟩
 |nU _ _ dE _ _ fy _ r sz h hg hl hc ho hs=>exact⟨r,sz,dE,fy,rfl,h,ho,hc,λe=>qE,λ_=>⟨hs,hl⟩⟩
def dN (size:Nat)(n:Nat)(x:CV)(st:St):Option (List CV):=
 match x with
 | .ae=>some []
 | .slice b off len _ grow=>bH (Nat.beq n 0) (some []) (bH (Bool.or (Nat.beq grow 0) (Nat.ble n len)) (match st.m.g b with|some (.cells s _ _)=>gV s off (n*size)|some (.ro s _)=>gV s off (n*size)|_=>none) none)
 |_=>none
def lY {size n:Nat}{x:CV}{x':Value}{t:List CV}(h:dN size n x st=some t)(hn:∀e,x=.ae->e=n->e=0)(hw:WR ρ st w)(hx:VR ρ x x'):
 ∃vs,eK ρ t vs/\vs.length=n*size/\∀w1:World,w1.heap=w.heap->(Builtin.firstCells size n x').run P w1=.ok vs.toArray w1:=by
 unfold dN at h
 split at h
 .cases h;cases hx;have:=hn n rfl rfl;subst this;exact⟨[],eK.nil ρ,uG,λw1 _=>acD⟩
 .rename_i b off len cap grow;obtain⟨r,sz,dE,fy,rfl,hr,h1,h2,h3,h4⟩:=hx.eW;rw[aP]at h
  split at h
  .rename_i h0;simp only[aFw]at h0;subst h0;cases h;exact⟨[],eK.nil ρ,uG,λw1 _=>by simp[Builtin.firstCells,loadCells,loadCellsFrom]⟩
  .rename_i h0;simp only[aFw]at h0;rw[aP]at h
   split at h
   .rename_i hg;simp only[aFO,aFw,aFs]at hg
    split at h
    .rename_i s ty g hm;obtain⟨c,lo,hi,e1,e2,e3,e4,e5⟩:=hw.row hm hr;obtain⟨g1,g2⟩:=jY h
     have ho:dE=off:=by
      rcases hg with hg|hg
      .exact(h3 hg).2
      .by_cases hz:grow=0
       .exact(h3 hz).2
       .have:=(h4 qE).2;exact h1 qE
     subst ho;have g1':=g1;refine⟨(c.toList.drop dE).take (n*size),?_,vR,λw1 QN=>?_⟩
     .rw[show t=(s.drop dE).take (n*size)from g2]
      have e:(c.toList.drop dE).take (n*size)=((c.toList.take s.length).drop dE).take (n*size):=by
       rw[aGD,aGf,aFG qE]
      rw[e];exact(e4.drop dE).take _
     .exact eh P w1 r dE (n*size) c ty (lo,hi) acZ qE
    .rename_i s o0 hm;obtain⟨c,ty,lo,hi,e1,e2,e3,e4⟩:=hw.PM hm hr;obtain⟨g1,g2⟩:=jY h
     have ho:dE=off:=by
      rcases hg with hg|hg
      .exact(h3 hg).2
      .by_cases hz:grow=0
       .exact(h3 hz).2
       .have:=(h4 qE).2;exact h1 qE
     subst ho;have g1':=g1;refine⟨(c.toList.drop dE).take (n*size),?_,vR,λw1 QN=>?_⟩
     .rw[show t=(s.drop dE).take (n*size)from g2]
      have e:(c.toList.drop dE).take (n*size)=((c.toList.take s.length).drop dE).take (n*size):=by
       rw[aGD,aGf,aFG qE]
      rw[e];exact(e4.drop dE).take _
     .exact eh P w1 r dE (n*size) c ty (lo,hi) acZ qE
    .cases h
   .cases h
 .cases h
inductive Ds where
 |toInt (k:IntKind)
 |same
 |bytesOf (e:TypeId)
 |strOf
def cW (c:Ds)(x:CV)(st:St):OR:=
 match c,x with
 | .toInt k,.int _ n=>.ok (.int k (k.wrap n)) st
 | .same,.str l=>.ok (.str l) st
 | .bytesOf e,.str l=>.ok (.slice st.nx 0 l.length l.length 1) ⟨st.m.put st.nx (some (.cells (l.map bQ) e true)),st.nx+1⟩
 | .strOf,.ae=>.ok (.str []) st
 | .strOf,.slice b off len cap grow=>(match dN 1 len (.slice b off len cap grow) st with
   |some t=>(match Io t with|some l=>.ok (.str l) st|none=>.bad)
   |_=>.bad)
 |_,_=>.bad
def HJ (P:Program)(c:Ds)(src dst:TypeId):Prop:=
 match c with
 | .toInt k=>P.underlying dst=some (.int k)/\∃d,P.underlying src=some d
 | .same=>P.underlying dst=some .string/\P.underlying src=some .string
 | .bytesOf e=>P.underlying dst=some (.slice e)/\P.underlying e=some (.int .u8)/\P.underlying src=some .string
 | .strOf=>∃e,P.underlying src=some (.slice e)/\P.underlying e=some (.int .u8)/\P.underlying dst=some .string
def Kh (l:List Int):∀s:ByteArray,l.foldl (λr n=>r.push (UInt8.ofNat n.toNat)) s=⟨s.data++(l.map λn=>UInt8.ofNat n.toNat).toArray⟩:=by
 induction l with
 |nil=>intro s;simp
 |cons a l ih=>
  intro s;rw[List.foldl_cons,ih]
  congr 1
  apply Array.ext';simp[ByteArray.push]
def Kn {l:List UInt8}{vs:List Value}(h:eK ρ (l.map bQ) vs):vs=(l.map λx:UInt8=>(x.toNat:Int)).map (Value.int .u8):=by
 have:=(VR.E6 h).tY;simp only[Value.agg.injEq]at this;have:=congrArg Array.toList this;simp only[]at this;rw[this,aHl];rfl
def Gv {c:Ds}{src dst:TypeId}{x:CV}{x':Value}(h:cW c x st=.ok v st')(hw:WR ρ st w)(hx:VR ρ x x')(hf:HJ P c src dst):
 bK P (convert src dst x') ρ st w v st':=by
 unfold cW at h
 split at h
 .obtain⟨h1,d,h2⟩:=hf;cases h;cases hx;refine bK.still hw ?_ (.int _ _);simp only[convert,Sem.run_bind,aEZ h2,aEZ h1,Result.andThen_ok];cases d<;>simp[Conv.intToInt]
 .obtain⟨h1,h2⟩:=hf;cases h;cases hx;refine bK.still hw ?_ (.str _);simp[convert,aEZ h2,aEZ h1]
 .rename_i e l;obtain⟨h1,h2,h3⟩:=hf;cases h;cases hx
  let cap:=(Question.appendCap l.length 0 e).cut (w.tape w.drawn (.appendCap l.length 0 e))
  have Hk:l.length<=cap:=by show l.length<=l.length+_;omega
  let o:Obj:=.cells (((strB l).data.map λb=>Value.int .u8 b.toNat)++Array.replicate (cap-l.length) (.int .u8 0)) e (cap,cap+1)
  have sU:((strB l).data.map λb=>Value.int .u8 b.toNat).toList=(l.map λx:UInt8=>Value.int .u8 (x.toNat:Int)):=by
   simp[strB]
  have hsz:(((strB l).data.map λb=>Value.int .u8 b.toNat)++Array.replicate (cap-l.length) (Value.int .u8 0)).size=cap:=by
   have:(strB l).data.size=l.length:=kV l;simp[this];omega
  have hb:∀ρ,BR ρ (.cells (l.map bQ) e true) o cap:=λρ=>by
   have hs:(l.map bQ).length=l.length:=uG
   have:=BR.cells (ρ:=ρ) (l.map bQ) e true (((strB l).data.map λb=>Value.int .u8 b.toNat)++Array.replicate (cap-l.length) (.int .u8 0)) cap (cap+1) (by rw[hs,hsz];exact Hk)
    (by
     rw[Array.toList_append,sU,hs];rw[aGj uG];exact eK.bytes ρ l)
    (λk hk=>by rw[hsz]at hk;omega) (λh=>by cases h)
   rw[hsz]at this;exact this
  have ha:=br.new (hw.EK (w':={w with drawn:=w.drawn+1}) rfl) (hb (ρ.set st.nx (w.heap.size,cap)));have hd:=br.draw hw (w.drawn+1);refine⟨.slice (some ⟨w.heap.size,0,none⟩) l.length cap,_,_,?_,.nU _ _ 0 _ _ cap 1 _ _ ha.2 qE (aEQ _) Hk (λ_=>rfl) qE,hd.trans ha.1⟩;have hs:=kV l;simp only[convert,Sem.run_bind,aEZ h3,aEZ h1,aEZ h2,Result.andThen_ok,Conv.stringToBytes,run_choose,hs];simp only[Question.forced,aEM,aFa,Result.andThen_ok,newRow,Sem.run_bind,run_newObj,Sem.run_pure]
  have hsh:({heap:=w.heap.push (.cells (((strB l).data.map λb=>Value.int .u8 b.toNat)++Array.replicate (cap-l.length) (.int .u8 0)) e),tape:=w.tape,drawn:=w.drawn+1,os:=w.os,output:=w.output}:World).shape? w.heap.size=some (e,cap):=by
   simp only[World.shape?,Array.getElem?_push_size,hsz]
  simp only[markStringish,Sem.run_bind,run_shape,Result.andThen_ok];rw[show(Question.appendCap l.length 0 e).cut (w.tape w.drawn (Question.appendCap l.length 0 e))=cap from rfl,hsh];simp only[run_freeze,Result.andThen_ok]
  congr 1
  simp only[World.freeze,Nat.succ_ne_zero,aFa,World.mk.injEq,and_true];apply Array.ext
  .simp
  .intro k h1 h2;simp only[Array.getElem_modify,Array.getElem_push]
   by_cases hk:k=w.heap.size
   .subst hk;simp[o]
   .have:k<w.heap.size:=by simp at h2;omega
    simp[this,aFL hk]
 .obtain⟨e,h1,h2,h3⟩:=hf;cases h;cases hx;refine bK.still hw ?_ (.str []);rw[run_convert_bytes_string w src dst e none 0 0 h1 h2 h3]
  rfl
 .rename_i b off len cap grow;obtain⟨e,h1,h2,h3⟩:=hf;cases hs:dN 1 len (.slice b off len cap grow) st with
  |none=>rw[hs]at h;cases h
  |some t=>
   rw[hs]at h;obtain⟨vs,g1,g2,g3⟩:=lY (P:=P) hs (λ_ h _=>by cases h) hw hx;obtain⟨r,sz,dE,fy,rfl,hr,_⟩:=hx.eW;have RZ:=g3 w rfl;simp only[Builtin.firstCells,aGB]at RZ;dsimp only at h;cases hl:Io t with
   |none=>rw[hl]at h;cases h
   |some l=>
    rw[hl]at h;cases h;have hv:=Kn (by rw[vW hl]at g1;exact g1);rw[hv]at RZ;refine bK.still hw ?_ (.str l);rw[run_convert_bytes_string w src dst e _ _ _ h1 h2 h3,run_bytesToString w _ _ _ _ RZ,Kh]
    congr 2
    unfold strB
    congr 1
    apply Array.ext';simp[aHl,Function.comp_def]
 .cases h
end
section
variable {x:CV}{x':Value}{n:Nat}{la fk:Option Value}{t e:TypeId}{i:CV}{fs:Array Field}{f:Field}{ti:TypeInfo}{u:TypeDesc}{i':Value}
section
variable {P:Program} {ρ:Ren} {st st':St} {w:World} {v:CV}
def E0 (x:Option CV)(abd y:Nat):Option Nat:=
 match x with
 |none=>some abd
 |some (.int _ (.ofNat n))=>bH (Nat.ble n y) (some n) none
 |_=>none
def jT {abd y:Nat}(h:E0 (some x) abd y=some n)(hx:VR ρ x x'){Y:Nat}(hY:y<=Y)(code:BoundsCode):
 (Instr.sliceBound x' Y code).run P w=.ok n w/\n<=y:=by
 unfold E0 at h
 split at h
 .rename_i e;cases e
 .rename_i k m e;cases e;simp only[aP,aFs]at h
  split at h
  .rename_i hle;cases h;cases hx;refine⟨?_,hle⟩;have h1:(0:Int)<=Int.ofNat n/\Int.ofNat n<=(Y:Int):=⟨aHd _,by show(n:Int)<=Y;omega⟩;simp only[Instr.sliceBound,asIntOf,Sem.run_bind,Sem.run_pure,Result.andThen_ok,Sem.run_ite,aEW h1]
   rfl
  .cases h
 .cases h
def Td (ρ:Ren)(x:Option CV)(x':Option Value):Prop:=match x,x' with|none,none=>True|some x,some x'=>VR ρ x x'|_,_=>False
def nI (lo hi:Option CV)(len cap:Nat):Option (Nat×Nat):=
 match E0 hi len cap with
 |some h=>(match E0 lo 0 h with|some l=>some (l,h)|none=>none)
 |none=>none
def ns {isSlice:Bool}{lo hi:Option CV}{len cap fy l h:Nat}(hb:nI lo hi len cap=some (l,h))(h1:Td ρ lo la)(h2:Td ρ hi fk)(hc:cap<=fy)
 (hl:hi=none->len<=cap):(Instr.sliceBounds isSlice len fy la fk none).run P w=.ok (l,h,fy) w/\l<=h/\h<=cap:=by
 unfold nI at hb;cases e1:E0 hi len cap with
 |none=>rw[e1]at hb;cases hb
 |some h0=>
  rw[e1]at hb;cases e2:E0 lo 0 h0 with
  |none=>dsimp only at hb;rw[e2]at hb;cases hb
  |some l0=>
   dsimp only at hb;rw[e2]at hb;cases hb
   have H:h<=cap:=by
    cases hi with
    |none=>cases e1;exact hl rfl
    |some x=>cases fk with
     |none=>exact h2.elim
     |some x'=>exact(jT (P:=P) (w:=w) e1 h2 (aEQ _) .index).2
   have L:l<=h:=by
    cases lo with
    |none=>cases e2;omega
    |some x=>cases la with
     |none=>exact h1.elim
     |some x'=>exact(jT (P:=P) (w:=w) e2 h1 (aEQ _) .index).2
   refine⟨?_,L,H⟩;cases hi with
   |none=>
    cases fk with
    |some _=>exact h2.elim
    |none=>
     cases e1;cases lo with
     |none=>cases la with
      |some _=>exact h1.elim
      |none=>cases e2;simp[Instr.sliceBounds]
     |some x=>cases la with
      |none=>exact h1.elim
      |some x'=>simp[Instr.sliceBounds,(jT (P:=P) (w:=w) e2 h1 (aEQ _) .sliceB).1]
   |some y=>
    cases fk with
    |none=>exact h2.elim
    |some y'=>
     have E1:=λcode=>(jT (P:=P) (w:=w) e1 h2 hc code).1;cases lo with
     |none=>cases la with
      |some _=>exact h1.elim
      |none=>cases e2;cases isSlice<;>simp[Instr.sliceBounds,E1]
     |some x=>cases la with
      |none=>exact h1.elim
      |some x'=>cases isSlice<;>simp[Instr.sliceBounds,E1,(jT (P:=P) (w:=w) e2 h1 (aEQ _) .sliceB).1]
def ix (x:CV)(lo hi:Option CV)(st:St):OR:=
 match x with
 | .str s=>(match nI lo hi s.length s.length with|some (l,h)=>.ok (.str ((s.drop l).take (h-l))) st|none=>.bad)
 |_=>.bad
def vY (s:List UInt8)(l h:Nat):(strB s).extract l h=strB ((s.drop l).take (h-l)):=by
 unfold strB;apply ByteArray.ext;rw[ByteArray.data_extract];apply Array.ext';simp only[Array.toList_extract,List.extract_eq_take_drop]
def yN {lo hi:Option CV}(h:ix x lo hi st=.ok v st')(hw:WR ρ st w)(hx:VR ρ x x')(h1:Td ρ lo la)(h2:Td ρ hi fk)
 (hu:P.underlying t=some .string):bK P (Instr.sliceAt t x' la fk none) ρ st w v st':=by
 unfold ix at h
 split at h
 .rename_i s
  split at h
  .rename_i l k hb;cases h;cases hx;obtain⟨b1,b2,b3⟩:=ns (P:=P) (w:=w) (isSlice:=false) hb h1 h2 (aEQ _) (λ_=>aEQ _);refine bK.still hw (v':=.string ((strB s).extract l k)) ?_ (by rw[vY];exact .str _);have e:=kV s;simp[Instr.sliceAt,aEZ hu,Instr.slice,e,b1]
  .cases h
 .cases h
def aQ (size:Nat)(x:CV)(lo hi:Option CV)(st:St):OR:=
 match x with
 | .ae=>(match nI lo hi 0 0 with|some _=>.ok .ae st|none=>.bad)
 | .slice b off len cap grow=>bH (Nat.ble len cap) (match nI lo hi len cap with
   |some (l,h)=>oJ (Nat.sub h l) λn=>oJ (Nat.sub cap l) λc=>
    bH (Bool.and (Nat.beq grow 0) (Nat.beq l cap)) (.ok (.slice b off n c grow) st) (oJ (Nat.add off (Nat.mul l size)) λo=>bH (Bool.or (Nat.beq grow 0) (Nat.beq grow size)) (.ok (.slice b o n c grow) st) .bad)
   |none=>.bad) .bad
 |_=>.bad
def Af {size:Nat}{lo hi:Option CV}(h:aQ size x lo hi st=.ok v st')(hw:WR ρ st w)(hx:VR ρ x x')(h1:Td ρ lo la)(h2:Td ρ hi fk)
 (hu:P.underlying t=some (.slice e)) (hs:(Go.sizeOf e).run P w=.ok size w):bK P (Instr.sliceAt t x' la fk none) ρ st w v st':=by
 unfold aQ at h
 split at h
 .split at h
  .rename_i lh hb;obtain⟨l,k⟩:=lh;cases h;cases hx;obtain⟨b1,b2,b3⟩:=ns (P:=P) (w:=w) (isSlice:=true) hb h1 h2 (aEQ _) (λ_=>aEQ _);have hk:k=0:=by omega
   have hl:l=0:=qE
   subst hk;subst hl;refine bK.still hw ?_ .ae;simp[Instr.sliceAt,aEZ hu,Instr.slice,b1,hs]
  .cases h
 .rename_i b off len cap grow;rw[aP]at h
  split at h
  rotate_left
  .cases h
  rename_i Vl;rw[aFs]at Vl
  split at h
  .rename_i l k hb;rw[dI,dI]at h;obtain⟨r,sz,dE,fy,rfl,hr,c1,c2,c3,c4⟩:=hx.eW;obtain⟨b1,b2,b3⟩:=ns (P:=P) (w:=w) (isSlice:=true) hb h1 h2 c2 (λ_=>Vl)
   have jZ:(Instr.sliceAt t (.slice (some ⟨r,dE,none⟩) len fy) la fk none).run P w=
    .ok (.slice (if fy=l then some ⟨r,dE,none⟩else some ⟨r,dE+l*size,none⟩) (k-l) (fy-l)) w:=by
    simp[Instr.sliceAt,aEZ hu,Instr.slice,b1,hs,kF]
   simp only[aP,aFl,aFO,aFw,dI]at h
   split at h
   .rename_i hg;obtain⟨hg,hl⟩:=hg;cases h;obtain⟨e1,e2⟩:=c3 hg;subst hg;subst e1;subst e2;subst hl;refine bK.still hw jZ ?_;rw[aEW rfl];exact .slice _ _ _ _ r sz hr
   .rename_i hng
    split at h
    .rename_i hg
     .cases h
      by_cases hz:grow=0
      .obtain⟨e1,e2⟩:=c3 hz;subst hz;subst e1;subst e2;refine bK.still hw jZ ?_;rw[aET (λe=>hng ⟨rfl,e.symm⟩)];exact .slice _ _ _ _ r sz hr
      .have hgs:grow=size:=by rcases hg with hg|hg;exact absurd hg hz;exact hg
       obtain⟨d1,d2⟩:=c4 qE;refine bK.still hw jZ ?_
       have key:∀o',o'+(fy-l)*grow<=sz->(0<cap-l->o'=off+l*size)->
        VR ρ (.slice b (off+l*size) (k-l) (cap-l) grow) (.slice (some ⟨r,o',none⟩) (k-l) (fy-l)):=λo' ho1 ho2=>
        .nU _ _ o' _ _ (fy-l) grow r sz hr qE qE qE ho2 ho1
       split
       .rename_i oO;exact key dE (by rw[oO,Nat.sub_self,Nat.zero_mul];omega) qE
       .refine key (dE+l*size) ?_ (λhp=>by rw[c1 qE])
        have:l*size+(fy-l)*grow=fy*grow:=by
         rw[hgs,<-aFW];congr 1;omega
        omega
    .cases h
  .cases h
 .cases h
def iU (size:Nat)(x:CV)(lo:Option CV)(hi mx:CV)(st:St):OR:=
 match x with
 | .slice b off len cap grow=>(match E0 (some mx) 0 cap with
   |some m=>(match nI lo (some hi) len m with
    |some (l,h)=>bH (Bool.or (Nat.beq grow 0) (Nat.ble (Nat.succ l) cap)) (oJ (Nat.sub h l) λn=>oJ (Nat.sub m l) λc=>bH (Nat.beq m l) (.ok (.slice b off n c 0) st) (oJ (Nat.add off (Nat.mul l size)) λo=>.ok (.slice b o n c 0) st)) .bad
    |none=>.bad)
   |none=>.bad)
 | .ae=>(match E0 (some mx) 0 0 with
   |some m=>(match nI lo (some hi) 0 m with|some _=>.ok .ae st|none=>.bad)
   |none=>.bad)
 |_=>.bad
def BF {size:Nat}{lo:Option CV}{hi mx:CV}{fk mx':Value}(h:iU size x lo hi mx st=.ok v st')(hw:WR ρ st w)(hx:VR ρ x x')(h1:Td ρ lo la)(h2:VR ρ hi fk)(h3:VR ρ mx mx')
 (hu:P.underlying t=some (.slice e)) (hs:(Go.sizeOf e).run P w=.ok size w):bK P (Instr.sliceAt t x' la (some fk) (some mx')) ρ st w v st':=by
 unfold iU at h
 split at h
 .rename_i b off len cap grow
  split at h
  .rename_i m hm
   split at h
   .rename_i l k hb;obtain⟨r,sz,dE,fy,rfl,hr,c1,c2,c3,c4⟩:=hx.eW;obtain⟨m1,m2⟩:=jT (P:=P) (w:=w) hm h3 c2 .slice3Acap;unfold nI at hb;cases e1:E0 (some hi) len m with
    |none=>rw[e1]at hb;cases hb
    |some h0=>
     rw[e1]at hb;cases e2:E0 lo 0 h0 with
     |none=>dsimp only at hb;rw[e2]at hb;cases hb
     |some l0=>
      dsimp only at hb;rw[e2]at hb;cases hb;obtain⟨k1,k2⟩:=jT (P:=P) (w:=w) e1 h2 (aEQ _) .slice3B
      have hl:l<=k/\(Instr.sliceBounds true len fy la (some fk) (some mx')).run P w=.ok (l,k,m) w:=by
       cases lo with
       |none=>cases la with
        |some _=>exact h1.elim
        |none=>cases e2;exact⟨qE,by simp[Instr.sliceBounds,m1,k1]⟩
       |some y=>cases la with
        |none=>exact h1.elim
        |some y'=>
         obtain⟨l1,l2⟩:=jT (P:=P) (w:=w) e2 h1 (aEQ _) .slice3C;exact⟨l2,by simp[Instr.sliceBounds,m1,k1,l1]⟩
      have jZ:(Instr.sliceAt t (.slice (some ⟨r,dE,none⟩) len fy) la (some fk) (some mx')).run P w=
       .ok (.slice (if m=l then some ⟨r,dE,none⟩else some ⟨r,dE+l*size,none⟩) (k-l) (m-l)) w:=by
       simp[Instr.sliceAt,aEZ hu,Instr.slice,hl.2,hs,kF]
      simp only[aP,aFO,aFw,aFs,dI]at h
      split at h
      .rename_i hg
       have ho:dE=off:=by
        rcases hg with hg|hg
        .exact(c3 hg).2
        .exact c1 qE
       subst ho
       split at h
       .rename_i Ow;cases h;refine bK.still hw jZ ?_;rw[aEW Ow];exact .slice _ _ _ _ r sz hr
       .rename_i Ow;cases h;refine bK.still hw jZ ?_;rw[aET Ow];exact .slice _ _ _ _ r sz hr
      .cases h
   .cases h
  .cases h
 .split at h
  .rename_i m hm
   split at h
   .rename_i lh hb;obtain⟨l,k⟩:=lh;cases h;cases hx;obtain⟨m1,m2⟩:=jT (P:=P) (w:=w) hm h3 (aEQ 0) .slice3Acap;have No:m=0:=by omega
    subst No;unfold nI at hb;cases e1:E0 (some hi) 0 0 with
    |none=>rw[e1]at hb;cases hb
    |some h0=>
     rw[e1]at hb;cases e2:E0 lo 0 h0 with
     |none=>dsimp only at hb;rw[e2]at hb;cases hb
     |some l0=>
      dsimp only at hb;rw[e2]at hb;cases hb;obtain⟨k1,k2⟩:=jT (P:=P) (w:=w) e1 h2 (aEQ _) .slice3B;have LM:k=0:=qE
      subst LM
      have hl:l<=0/\(Instr.sliceBounds true 0 0 la (some fk) (some mx')).run P w=.ok (l,0,0) w:=by
       cases lo with
       |none=>cases la with
        |some _=>exact h1.elim
        |none=>cases e2;exact⟨qE,by simp[Instr.sliceBounds,m1,k1]⟩
       |some y=>cases la with
        |none=>exact h1.elim
        |some y'=>
         obtain⟨l1,l2⟩:=jT (P:=P) (w:=w) e2 h1 (aEQ _) .slice3C;exact⟨l2,by simp[Instr.sliceBounds,m1,k1,l1]⟩
      have hl0:l=0:=qE
      subst hl0;refine bK.still hw ?_ .ae;simp[Instr.sliceAt,aEZ hu,Instr.slice,hl.2,hs]
   .cases h
  .cases h
 .cases h
def bY (n size:Nat)(x:CV)(lo hi:Option CV)(st:St):OR:=
 match x with
 | .ptr b off=>(match nI lo hi n n with
   |some (l,h)=>oJ (Nat.sub h l) λk=>oJ (Nat.sub n l) λc=>bH (Nat.beq n l) (.ok (.slice b off k c 0) st) (oJ (Nat.add off (Nat.mul l size)) λo=>.ok (.slice b o k c 0) st)
   |none=>.bad)
 |_=>.bad
def yO {size:Nat}{lo hi:Option CV}(h:bY n size x lo hi st=.ok v st')(hw:WR ρ st w)(hx:VR ρ x x')(h1:Td ρ lo la)(h2:Td ρ hi fk)
 (hu:P.underlying t=some (.array n e)) (hs:(Go.sizeOf e).run P w=.ok size w):bK P (Instr.sliceAt t x' la fk none) ρ st w v st':=by
 unfold bY at h
 split at h
 .rename_i b off
  split at h
  .rename_i l k hb;cases hx with
   |ptr _ _ r sz hr=>
    obtain⟨b1,b2,b3⟩:=ns (P:=P) (w:=w) (isSlice:=false) hb h1 h2 (aEQ _) (λ_=>aEQ _)
    have jZ:(Instr.sliceAt t (.pointer (some ⟨r,off,none⟩)) la fk none).run P w=
     .ok (.slice (some (if n=l then ⟨r,off,none⟩else ⟨r,off+l*size,none⟩)) (k-l) (n-l)) w:=by
     simp[Instr.sliceAt,aEZ hu,Instr.sureAddr,b1,hs,kF]
    simp only[aP,aFw,dI]at h
    split at h
    .rename_i GY;cases h;refine bK.still hw jZ ?_;rw[aEW GY];exact .slice _ _ _ _ r sz hr
    .rename_i GY;cases h;refine bK.still hw jZ ?_;rw[aET GY];exact .slice _ _ _ _ r sz hr
  .cases h
 .cases h
def oZ (n:Nat)(x:CV)(st:St):OR:=
 match x with| .slice b off len cap grow=>bH (Bool.and (Nat.ble n len) (Bool.or (Nat.beq grow 0) (Bool.and (Nat.ble 1 cap) (Nat.ble len cap)))) (.ok (.ptr b off) st) .bad|_=>.bad
def Gq (h:oZ n x st=.ok v st')(hw:WR ρ st w)(hx:VR ρ x x')(hu:P.underlying t=some (.array n e)):bK P (Instr.arrayAt t x') ρ st w v st':=by
 unfold oZ at h
 split at h
 .rename_i b off len cap grow;simp only[aP,aFl,aFO,aFw,aFs]at h
  split at h
  .rename_i hg;cases h;obtain⟨r,sz,dE,fy,rfl,hr,c1,c2,c3,c4⟩:=hx.eW
   have ho:dE=off:=by
    rcases hg.2 with hg|hg
    .exact(c3 hg).2
    .exact c1 qE
   subst ho;refine bK.still hw ?_ (.ptr _ _ r sz hr);have:¬len<n:=qE
   simp[Instr.arrayAt,aEZ hu,this]
  .cases h
 .cases h
def an (off:Nat)(x:CV)(st:St):OR:=match x with| .ptr b o=>oJ (Nat.add o off) λo=>.ok (.ptr b o) st|_=>.bad
def xB {i:Nat}{off:Nat}(h:an off x st=.ok v st')(hw:WR ρ st w)(hx:VR ρ x x')(hu:P.underlying t=some (.struct fs))
 (hf:fs[i]?=some f) (ho:f.offset=off) (hs:(Go.sizeOf f.type).run P w=.ok n w) (hn:n≠0):bK P (Instr.fieldAt t x' i) ρ st w v st':=by
 unfold an at h
 split at h
 .rename_i b o;rw[dI]at h;cases h;cases hx with
  |ptr _ _ r sz hr=>
   refine bK.still hw ?_ (.ptr _ _ r sz hr);simp[Instr.fieldAt,aEZ hu,hf,Instr.sureAddr,fieldPlace,hs,hn,kF,ho]
 .cases h
def Ai (agg:Bool)(off size:Nat)(x:CV)(st:St):OR:=match x with| .agg s=>Option.rec .bad (λv=>.ok v st) (iB agg off size s)|_=>.bad
def Ec {i:Nat}(h:Ai (iF u) f.offset ti.size x st=.ok v st')(hw:WR ρ st w)(hx:VR ρ x x')(hu:P.underlying t=some (.struct fs))
 (hf:fs[i]?=some f) (hi:P.info? f.type=some ti) (hut:P.underlying f.type=some u):bK P (Instr.field t x' i) ρ st w v st':=by
 unfold Ai at h
 split at h
 .rename_i s;cases hc:iB (iF u) f.offset ti.size s with
  |none=>rw[hc]at h;cases h
  |some y=>
   rw[hc]at h;cases h;cases hx with
   |agg _ l hl hh=>
    obtain⟨y',p1,p2⟩:=iQ (P:=P) (w:=w) hc ⟨hl,hh⟩ hi rfl hut rfl;refine bK.still hw ?_ p2;simp[Instr.field,aEZ hu,hf,asAgg,p1]
 .cases h
def fV (n size:Nat)(x i:CV)(st:St):OR:=
 match x,i with| .ptr b o,.int _ (.ofNat j)=>bH (Nat.ble (Nat.succ j) n) (oJ (Nat.add o (Nat.mul j size)) λo=>.ok (.ptr b o) st) .bad|_,_=>.bad
def cc (size:Nat)(x i:CV)(st:St):OR:=
 match x,i with| .slice b o len cap grow,.int _ (.ofNat j)=>bH (Bool.and (Nat.ble (Nat.succ j) len) (Bool.or (Nat.beq grow 0) (Nat.ble len cap))) (oJ (Nat.add o (Nat.mul j size)) λo=>.ok (.ptr b o) st) .bad|_,_=>.bad
def BI {size:Nat}(h:fV n size x i st=.ok v st')(hw:WR ρ st w)(hx:VR ρ x x')(hi:VR ρ i i')(hu:P.underlying t=some (.array n e))
 (hs:(Go.sizeOf e).run P w=.ok size w):bK P (Instr.indexAt t x' i') ρ st w v st':=by
 unfold fV at h
 split at h
 .rename_i b o k j;simp only[aP,aFs,dI]at h
  split at h
  .rename_i hj;cases h;cases hi;cases hx with
   |ptr _ _ r sz hr=>
    refine bK.still hw ?_ (.ptr _ _ r sz hr);have h1:(0:Int)<=Int.ofNat j/\Int.ofNat j<(n:Int):=⟨aHd _,by show(j:Int)<n;omega⟩;simp only[Instr.indexAt,asIntOf,Sem.run_bind,Sem.run_pure,Result.andThen_ok,aEZ hu,Instr.sureAddr,Sem.run_ite,aEW h1,hs,kF]
    rfl
  .cases h
 .cases h
def Eb {size:Nat}(h:cc size x i st=.ok v st')(hw:WR ρ st w)(hx:VR ρ x x')(hi:VR ρ i i')(hu:P.underlying t=some (.slice e))
 (hs:(Go.sizeOf e).run P w=.ok size w):bK P (Instr.indexAt t x' i') ρ st w v st':=by
 unfold cc at h
 split at h
 .rename_i b o len cap grow k j;simp only[aP,aFl,aFO,aFw,aFs,dI]at h
  split at h
  .rename_i hj;cases h;cases hi;obtain⟨r,sz,dE,fy,rfl,hr,c1,c2,c3,c4⟩:=hx.eW
   have ho:dE=o:=by
    rcases hj.2 with hg|hg
    .exact(c3 hg).2
    .exact c1 qE
   subst ho;refine bK.still hw ?_ (.ptr _ _ r sz hr);have h1:(0:Int)<=Int.ofNat j/\Int.ofNat j<(len:Int):=⟨aHd _,by show(j:Int)<len;omega⟩;simp only[Instr.indexAt,asIntOf,Sem.run_bind,Sem.run_pure,Result.andThen_ok,aEZ hu,Sem.run_ite,aEW h1,hs,kF]
   rfl
  .cases h
 .cases h
def ph (x i:CV)(st:St):OR:=
 match x,i with| .str l,.int _ (.ofNat j)=>(match l[j]? with|some b=>.ok (bQ b) st|none=>.bad)|_,_=>.bad
def BH (h:ph x i st=.ok v st')(hw:WR ρ st w)(hx:VR ρ x x')(hi:VR ρ i i')(hu:P.underlying t=some .string):bK P (Instr.index t x' i') ρ st w v st':=by
 unfold ph at h
 split at h
 .rename_i l k j
  split at h
  .rename_i b hj;cases h;cases hi;cases hx;refine bK.still hw ?_ (.int _ _);have h1:(0:Int)<=Int.ofNat j:=aHd _;have hlt:=(aFb.1 hj).1
   have uw:(strB l)[(Int.ofNat j).toNat]?=some b:=by
    show(strB l)[j]?=_;rw[getElem?_pos (strB l) j (by rw[kV];exact hlt)];rw[<-hj,aES hlt];rfl
   simp only[Instr.index,asIntOf,Sem.run_bind,Sem.run_pure,Result.andThen_ok,aEZ hu,aEW h1,uw]
  .cases h
 .cases h
def wj (n size:Nat)(agg:Bool)(x i:CV)(st:St):OR:=
 match x,i with| .agg s,.int _ (.ofNat j)=>bH (Nat.ble (Nat.succ j) n) (Option.rec .bad (λv=>.ok v st) (iB agg (Nat.mul j size) size s)) .bad|_,_=>.bad
def BJ (h:wj n ti.size (iF u) x i st=.ok v st')(hw:WR ρ st w)(hx:VR ρ x x')(hi:VR ρ i i')(hu:P.underlying t=some (.array n e))
 (he:P.info? e=some ti) (Ot:P.underlying e=some u):bK P (Instr.index t x' i') ρ st w v st':=by
 unfold wj at h
 split at h
 .rename_i s k j;simp only[aP,aFs]at h
  split at h
  .rename_i hj;cases hc:iB (iF u) (Nat.mul j ti.size) ti.size s with
   |none=>rw[hc]at h;cases h
   |some y=>
    rw[hc]at h;cases h;cases hi;cases hx with
    |agg _ l hl hh=>
     obtain⟨y',p1,p2⟩:=iQ (P:=P) (w:=w) hc ⟨hl,hh⟩ he rfl Ot rfl;refine bK.still hw ?_ p2;have h1:(0:Int)<=Int.ofNat j/\Int.ofNat j<(n:Int):=⟨aHd _,by show(j:Int)<n;omega⟩;have h2:(Go.sizeOf e).run P w=.ok ti.size w:=by simp[Go.sizeOf,typeInfo,he]
     simp only[Instr.index,asIntOf,Sem.run_bind,Sem.run_pure,Result.andThen_ok,aEZ hu,Sem.run_ite,aEW h1,h2];exact p1
  .cases h
 .cases h
def vo (t:TypeId)(x:CV)(st:St):OR:=.ok (.iface t x) st
def Ea (h:vo t x st=.ok v st')(hw:WR ρ st w)(hx:VR ρ x x')(hc:P.concrete t=true):bK P (Instr.makeInterface t x') ρ st w v st':=by
 cases h;exact bK.still hw (run_makeInterface w t x' hc) (.iface t x x' hx)
end
end
section
variable {es:List (CV×CV×Nat)}{clock r sz:Nat}{t ty:TypeId}{x:CV}{x':Value}{e:TypeId}{i:TypeInfo}{z:List CV}{z':Value}
def cM (c:Nat)(z:List CV):List CV:=(List.replicate c z).flatten
def pT (z:Array Value):∀c,((List.range (c*z.size)).map λi=>z[i%z.size]!)=(List.replicate c z.toList).flatten:=by
 intro c
 induction c with
 |zero=>simp
 |succ c ih=>
  rw[aGV,aGq,<-ih,Nat.succ_mul,aHE,List.range_add,aFR,aHl]
  congr 1
  .apply List.ext_getElem
   .simp
   .intro i h1 h2;simp only[aFK,List.length_range]at h1;simp[aGz h1,h1]
  .apply List.map_congr_left;intro i _;simp
section
variable {P:Program} {ρ:Ren} {st st':St} {w:World} {v:CV}
def eK.flatten {l:List CV}{l':List Value}(h:eK ρ l l')(c:Nat):eK ρ (List.replicate c l).flatten (List.replicate c l').flatten:=by
 induction c with
 |zero=>exact eK.nil ρ
 |succ c ih=>rw[aGV,aGV,aGq,aGq];exact h.app ih
inductive Od where
 |str|slice|map|cap
 |const (n:Nat)
def bo (k:Od)(x:CV)(st:St):OR:=
 match k,x with
 | .const n,_=>yQ .i64 st n
 | .str,.str l=>yQ .i64 st l.length
 | .slice,.ae=>yQ .i64 st 0
 | .slice,.slice _ _ len _ _=>yQ .i64 st len
 | .slice,.mQ=>yQ .i64 st 0
 | .map,.fY=>yQ .i64 st 0
 | .map,.map b=>(match st.m.g b with|some (.map es _)=>oJ es.length (yQ .i64 st)|some (.lmap es)=>oJ es.length (yQ .i64 st)|_=>.bad)
 | .cap,.ae=>yQ .i64 st 0
 | .cap,.slice _ _ _ cap grow=>bH (Nat.beq grow 0) (yQ .i64 st cap) (.ok (.ib cap) st)
 |_,_=>.bad
def Lj (P:Program)(k:Od)(t:TypeId):Prop:=
 match k with
 | .str=>P.underlying t=some .string
 | .slice=>∃e,P.underlying t=some (.slice e)
 | .map=>∃k e,P.underlying t=some (.map k e)
 | .cap=>False
 | .const n=>(∃e,P.underlying t=some (.array n e))\/∃a e,P.underlying t=some (.pointer a)/\P.underlying a=some (.array n e)
def WR.map {b:Nat}(h:WR ρ st w)(h1:st.m.g b=some (.map es clock))(h2:ρ b=some (r,sz)):
 ∃es':List MapEntry,w.heap[r]?=some (.map es'.toArray clock)/\es.length=es'.length/\
  ∀(i:Nat) (e:CV×CV×Nat) (e':MapEntry),es[i]?=some e->es'[i]?=some e'->VR ρ e.1 e'.key/\VR ρ e.2.1 e'.val/\e.2.2=e'.born:=by
 obtain⟨o,e2,e3⟩:=h.at' b _ r sz h1 h2;cases e3 with
 |map _ _ es' hl h=>exact⟨es',e2,hl,h⟩
def WR.lmap {b:Nat}(h:WR ρ st w)(h1:st.m.g b=some (.lmap es))(h2:ρ b=some (r,sz)):
 ∃(l:List (CV×CV×Nat)) (clock:Nat) (es':List MapEntry),w.heap[r]?=some (.map es'.toArray clock)/\l.Perm es/\(∀e∈es,∃n:Int,e.1=.int .i64 n)/\(es.map (·.1)).Nodup/\Go.MapKept.Stamped es'.toArray clock/\l.length=es'.length/\
  ∀(i:Nat) (e:CV×CV×Nat) (e':MapEntry),l[i]?=some e->es'[i]?=some e'->VR ρ e.1 e'.key/\VR ρ e.2.1 e'.val:=by
 obtain⟨o,e2,e3⟩:=h.at' b _ r sz h1 h2;cases e3 with
 |lmap _ l clock es' hp hi hn hs hl h=>exact⟨l,clock,es',e2,hp,hi,hn,hs,hl,h⟩
def dH {es:Array MapEntry}(h:w.heap[r]?=some (.map es clock)):(getObj r).run P w=.ok (.map es clock) w:=by
 simp only[getObj,Sem.run,h]
def Jw {k:Od}(h:bo k x st=.ok v st')(hw:WR ρ st w)(hx:VR ρ x x')(hf:Lj P k t)(ats:Array TypeId)(lL:ats[0]?=some t):
 bK P (Builtin.len_ ats ty #[x']) ρ st w v st':=by
 unfold bo at h
 split at h
 .cases h;refine bK.still hw ?_ (.int _ _);rcases hf with⟨e,hf⟩|⟨a,e,hf,Rt⟩
  .simp only[Builtin.len_,lL,aGg,aEL,Sem.run_bind,aEZ hf,Result.andThen_ok]
   rfl
  .simp only[Builtin.len_,lL,aGg,aEL,Sem.run_bind,aEZ hf,aEZ Rt,Result.andThen_ok]
   rfl
 .cases h;cases hx;refine bK.still hw ?_ (.int _ _);have hf':P.underlying t=some .string:=hf;simp[Builtin.len_,lL,aEZ hf',goInt]
 .cases h;cases hx;obtain⟨e,hf⟩:=hf;refine bK.still hw ?_ (.int _ _);simp[Builtin.len_,lL,aEZ hf,goInt]
 .cases h;obtain⟨e,hf⟩:=hf;obtain⟨r,sz,dE,fy,rfl,_⟩:=hx.eW;refine bK.still hw ?_ (.int _ _);simp[Builtin.len_,lL,aEZ hf,goInt]
 .cases h;cases hx;obtain⟨e,hf⟩:=hf;refine bK.still hw ?_ (.int _ _);simp[Builtin.len_,lL,aEZ hf,goInt]
 .cases h;cases hx;obtain⟨e,e2,hf⟩:=hf;refine bK.still hw ?_ (.int _ _);simp[Builtin.len_,lL,aEZ hf,goInt]
 .rename_i b;obtain⟨e,e2,hf⟩:=hf
  split at h
  .rename_i es clock hm;rw[dI]at h;cases h;cases hx with
   |map _ r sz hr=>
    obtain⟨es',h1,h2,h3⟩:=hw.map hm hr;refine bK.still hw ?_ (.int _ _);simp[Builtin.len_,lL,aEZ hf,goInt,dH h1,h2]
  .rename_i es hm;rw[dI]at h;cases h;cases hx with
   |map _ r sz hr=>
    obtain⟨l,clock,es',h1,h2,_,_,_,h3,_⟩:=hw.lmap hm hr;refine bK.still hw ?_ (.int _ _);simp[Builtin.len_,lL,aEZ hf,goInt,dH h1,<-h3,h2.length_eq]
  .cases h
 .exact hf.elim
 .exact hf.elim
 .cases h
def Jy (h:bo .cap x st=.ok v st')(hw:WR ρ st w)(hx:VR ρ x x')(hf:P.underlying t=some (.slice e))(ats:Array TypeId)(lL:ats[0]?=some t):
 bK P (Builtin.cap_ ats ty #[x']) ρ st w v st':=by
 have e:bo .cap x st=(match (generalizing:=false) x with| .ae=>yQ .i64 st 0| .slice _ _ _ cap grow=>bH (Nat.beq grow 0) (yQ .i64 st cap) (.ok (.ib cap) st)|_=>.bad):=by cases x<;>rfl
 rw[e]at h
 split at h
 .cases h;cases hx;refine bK.still hw ?_ (.int _ _);simp[Builtin.cap_,lL,aEZ hf,goInt]
 .rename_i b off len cap grow;obtain⟨r,sz,dE,fy,rfl,hr,c1,c2,c3,c4⟩:=hx.eW;simp only[aP,aFw]at h
  split at h
  .rename_i hg;cases h;obtain⟨g1,_⟩:=c3 hg;subst g1;refine bK.still hw ?_ (.int _ _);simp[Builtin.cap_,lL,aEZ hf,goInt]
  .cases h;refine bK.still hw (v':=.int .i64 (fy:Int)) ?_ (.ib _ _ (by exact_mod_cast c2));simp[Builtin.cap_,lL,aEZ hf,goInt]
 .cases h
def pe (e bytes:Nat)(z:List CV)(l c:CV)(st:St):OR:=
 match l,c with
 | .int _ (.ofNat l),.int _ (.ofNat c)=>
   bH (Bool.and (Nat.ble l c) (Bool.and (Nat.ble (Nat.mul bytes c) 281474976710656) (Nat.ble c 9223372036854775807)))
    (.ok (.slice st.nx 0 l c 0) ⟨st.m.put st.nx (some (.cells (cM c z) e false)),st.nx+1⟩) .bad
 |_,_=>.bad
def Gs {bytes:TypeId}{l c:CV}{l' c':Value}(h:pe e bytes z l c st=.ok v st')(hw:WR ρ st w)(hl:VR ρ l l')(hc:VR ρ c c')
 (hu:P.underlying t=some (.slice e)) (hi:P.info? e=some i) (hz:i.zero=some z') (hb:i.bytes=bytes) (hsz:z'.cells.size=i.size) (xp:∀ρ,eK ρ z z'.cells.toList):
 bK P (Instr.makeSlice t l' c') ρ st w v st':=by
 unfold pe at h
 split at h
 .rename_i k1 l k2 c;simp only[aP,aFl,aFs]at h
  split at h
  .rename_i hg;cases h;cases hl;cases hc;obtain⟨g1,g2,g3⟩:=hg
   have jZ:=run_make w t e i z' hu hi hz k1 k2 (l:Int) (c:Int) (aHd _) (Int.ofNat_le.2 g1) (by
    rw[hb];have:bytes*c<=281474976710656:=g2;have h4:((bytes*c:Nat):Int)<=281474976710656:=Int.ofNat_le.2 this
    rwa [Int.natCast_mul]at h4) (Int.ofNat_le.2 g3)
   have aat:(madeCells z'.cells (c*i.size)).toList=(List.replicate c z'.cells.toList).flatten:=by
    rw[<-hsz,madeCells,aGw,aHq];exact pT z'.cells c
   obtain⟨ρ',h1,h2,h3⟩:=br.newRow (P:=P) (t:=e) (s:=cM c z) (l:=(madeCells z'.cells (c*i.size)).toList) hw (λρ' _=>by
    rw[aat];exact(xp ρ').flatten c) false
   refine⟨_,_,ρ',jZ,?_,?_⟩
   .have:=VR.slice (ρ:=ρ') st.nx 0 l c w.heap.size _ h2
    simpa using this
   .rw[aGs]at h3;exact h3
  .cases h
 .cases h
inductive Ia where
 |slice|str|zeros
def de (k:Ia)(size:Nat)(z:List CV)(x:CV)(st:St):Option (Nat×List CV):=
 match k,x with
 | .slice,.ae=>some (0,[])
 | .slice,.slice b off len cap grow=>(match dN size len (.slice b off len cap grow) st with|some s=>some (len,s)|none=>none)
 | .str,.str l=>some (l.length,l.map bQ)
 | .zeros,.int _ (.ofNat n)=>bH (Nat.ble n 1099511627776) (some (n,cM n z)) none
 |_,_=>none
def DI (P:Program)(k:Ia)(u:TypeId)(size:Nat):Prop:=
 match k with
 | .slice=>∃e,P.underlying u=some (.slice e)
 | .str=>P.underlying u=some .string/\size=1
 | .zeros=>∃j,P.underlying u=some (.int j)
def mz (elem:TypeId)(size:Nat)(zeros:Bool)(n:Nat)(iE:Sem (Array Value))(base:Option Addr)(sLen sCap:Nat)(s x:Value):Sem Value:=do
 let need:=sLen+n
 if need<=sCap then
  let new<-iE
  if let some a:=base then storeCells (a.add (sLen*size)) new.toList
  pure (.slice base need sCap)
 else
  if (need:Int)>IntKind.i64.max/\(zeros\/(<-typeInfo elem).bytes=0)then runtimePanic (.error "growslice: len out of range")
  if Builtin.nextslicecap need sCap*(<-typeInfo elem).bytes>2^48 then (if zeros then runtimePanic (.error "growslice: len out of range")else do
   if !(<-Builtin.mayShare size sLen n base x)then mark .noRoom
   unsupported (.resourceLimit "append: a slice or a string whose bytes no memory bears"))
  let JD<-choose (.appendCap need sCap elem)
  askRoom (JD*(<-typeInfo elem).bytes)
  let UG<-Builtin.firstCells size sLen s
  let new<-iE
  let rest:=Builtin.zeroCells (<-zeroValue elem).cells (JD-need)
  pure (.slice (some (<-newRow elem (UG++new++rest))) need JD)
def Cn {k:Ia}{u size:TypeId}{n:Nat}{s:List CV}(h:de k size z x st=some (n,s))(hw:WR ρ st w)(hx:VR ρ x x')
 (hf:DI P k u size) (hu:P.underlying t=some (.slice e)) (hi:P.info? e=some i) (hz:i.zero=some z') (hs:i.size=size) (hsz:z'.cells.size=size) (xp:∀ρ,eK ρ z z'.cells.toList) (hb:k=.zeros->i.bytes<=256):
 ∃vs zeros iE,eK ρ s vs/\vs.length=n*size/\(∀w1:World,w1.heap=w.heap->iE.run P w1=.ok vs.toArray w1)/\
  ∀base sLen sCap,(Builtin.append_ #[t,u] ty #[.slice base sLen sCap,x']).run P w=(mz e size zeros n iE base sLen sCap (.slice base sLen sCap) x').run P w:=by
 have ng:(Go.sizeOf e).run P w=.ok size w:=by simp[Go.sizeOf,typeInfo,hi,hs]
 unfold de at h
 split at h
 .cases h;cases hx;obtain⟨e2,hf⟩:=hf;refine⟨[],false,Builtin.firstCells size 0 (.slice none 0 0),eK.nil ρ,uG,λw1 _=>acD,λbase sLen sCap=>?_⟩;simp only[Builtin.append_,aGg,aEL,aEN,Sem.run_bind,aEZ hu,aEZ hf,Result.andThen_ok,ng,Sem.run_pure,Builtin.lenOf,mz,aFf,aFm,aEM,aFa]
  rfl
 .rename_i b off len cap grow
  split at h
  .rename_i s' vG;cases h;obtain⟨e2,hf⟩:=hf;obtain⟨vs,g1,g2,g3⟩:=lY (P:=P) vG (λ_ h _=>by cases h) hw hx;obtain⟨r,sz,dE,fy,rfl,_⟩:=hx.eW;refine⟨vs,false,_,g1,g2,g3,λbase sLen sCap=>?_⟩;simp only[Builtin.append_,aGg,aEL,aEN,Sem.run_bind,aEZ hu,aEZ hf,Result.andThen_ok,ng,Sem.run_pure,Builtin.lenOf,mz,aFf,aFm,aEM,aFa]
   rfl
  .cases h
 .rename_i m;cases h;cases hx;obtain⟨hf,rfl⟩:=hf;refine⟨(m.map λy:UInt8=>Value.int .u8 (y.toNat:Int)),false,Builtin.firstCells 1 m.length (.string (strB m)),?_,uG,λw1 _=>?_,λbase sLen sCap=>?_⟩
  .exact eK.bytes ρ m
  .simp only[Builtin.firstCells,Sem.run_pure]
   congr 1
   apply Array.ext'
   have hlen:(strB m).extract 0 m.length=strB m:=by
    have h:(strB m).extract 0 (strB m).size=strB m:=ByteArray.extract_zero_size
    rwa [kV]at h
   rw[hlen];simp[strB]
  .simp only[Builtin.append_,aGg,aEL,aEN,Sem.run_bind,aEZ hu,aEZ hf,Result.andThen_ok,ng,Sem.run_pure,Builtin.lenOf,mz,aFf,aFm,aEM,aFa,kV]
   rfl
 .rename_i j m;simp only[aP,aFs]at h
  split at h
  .rename_i hm;cases h;cases hx;obtain⟨j2,hf⟩:=hf
   have hn:IntKind.i64.wrap (Int.ofNat n)=n:=by
    show IntKind.i64.wrap (n:Int)=n;exact IntWalk.i64_in _ qE
   have Tq:∀w1:World,(zeroValue e).run P w1=.ok z' w1:=λw1=>Yn
   refine⟨(List.replicate n z'.cells.toList).flatten,true,(if n*size=0 then pure #[]else do pure (Builtin.zeroCells (<-zeroValue e).cells n)),?_,?_,λw1 _=>?_,λbase sLen sCap=>?_⟩
   .exact(xp ρ).flatten n
   .simp[hsz]
   .split
    .rename_i h0
     have:(List.replicate n z'.cells.toList).flatten=[]:=by
      apply aFi.1;simp[hsz,h0]
     rw[this];rfl
    .simp only[Sem.run_bind,Tq,Result.andThen_ok,Sem.run_pure]
     congr 1
     apply Array.ext';rw[Builtin.zeroCells,aGw,aHq];exact pT z'.cells n
   .have h1:¬((n:Int)<0):=by omega
    have h2:¬((n:Int)*i.bytes>2^48):=by
     have h3:n*i.bytes<=1099511627776*256:=aHC hm (hb rfl);have h4:=Int.ofNat_le.2 h3;rw[Int.natCast_mul]at h4;exact λh5=>absurd (Int.lt_of_lt_of_le h5 h4) u7
    simp only[Builtin.append_,aGg,aEL,aEN,Sem.run_bind,aEZ hu,aEZ hf,Result.andThen_ok,ng,Sem.run_pure,asInt,asIntOf,hn,Sem.run_ite,typeInfo,run_program,hi,
     aET h1,aET h2,aHy,mz,aFm,aFh,aEM,aFa]
    rfl
  .cases h
 .cases h
end
end
