import Derived.Test.YtomffjeofpafnaaGreatDoorLimA
import Derived.Laws.BytesString
import Derived.IntWalk
namespace Lim
open Go
noncomputable section
section
variable {P:Program} {ρ:Ren} {st st':St} {w:World} {v:CV}
theorem VR.eF {b:Nat}{off len cap grow:Nat}{x':Value}(h:VR ρ (.slice b off len cap grow) x'):
 ∃r sz df eZ,x'= .slice (some ⟨r,df,none⟩) len eZ/\ρ b=some (r,sz)/\(0<cap->df=off)/\cap<=eZ/\(grow=0->eZ=cap/\df=off)/\
  (0<grow->df+eZ*grow<=sz/\len<=cap):=by
 cases h with
 |slice _ _ _ _ r sz h=>exact⟨r,sz,off,cap,rfl,h,fun _=>rfl,aAU _,fun _=>⟨rfl,rfl⟩,fun h=>absurd h (by omega)⟩
 |nj _ _ df _ _ eZ _ r sz h hg hl hc ho hs=>exact⟨r,sz,df,eZ,rfl,h,ho,hc,fun e=>by omega,fun _=>⟨hs,hl⟩⟩
def dH (size:Nat)(n:Nat)(x:CV)(st:St):Option (List CV):=
 match x with
 | .ae=>some []
 | .slice b off len _ grow=>bC (Nat.beq n 0) (some []) (bC (Bool.or (Nat.beq grow 0) (Nat.ble n len)) (match st.mem.get b with|some (.cells s _ _)=>gX s off (n*size)|some (.ro s _)=>gX s off (n*size)|_=>none) none)
 |_=>none
theorem lu {size n:Nat}{x:CV}{x':Value}{t:List CV}(h:dH size n x st=some t)(hn:∀e,x= .ae->e=n->e=0)(hw:WR ρ st w)(hx:VR ρ x x'):
 ∃vs,eu ρ t vs/\vs.length=n*size/\∀w1:World,w1.heap=w.heap->(Builtin.firstCells size n x').run P w1= .ok vs.toArray w1:=by
 unfold dH at h
 split at h
 ·cases h;cases hx;have:n=0:=hn n rfl rfl;subst this;exact⟨[],eu.nil ρ,by simp,fun w1 _=>by simp[Builtin.firstCells]⟩
 ·rename_i b off len cap grow;obtain⟨r,sz,df,eZ,rfl,hr,h1,h2,h3,h4⟩:=hx.eF;rw[aM]at h
  split at h
  ·rename_i h0;simp only[aBB]at h0;subst h0;cases h;exact⟨[],eu.nil ρ,by simp,fun w1 _=>by simp[Builtin.firstCells,loadCells,loadCellsFrom]⟩
  ·rename_i h0;simp only[aBB]at h0;rw[aM]at h
   split at h
   ·rename_i hg;simp only[aBS,aBB,aBy]at hg
    split at h
    ·rename_i s ty g hm;obtain⟨c,lo,hi,e1,e2,e3,e4,e5⟩:=hw.row hm hr;obtain⟨g1,g2⟩:=jt h
     have ho:df=off:=by
      rcases hg with hg|hg
      ·exact(h3 hg).2
      ·by_cases hz:grow=0
       ·exact(h3 hz).2
       ·have:=(h4 (by omega)).2;exact h1 (by omega)
     subst ho;have g1':df+n*size<=s.length:=g1;refine⟨(c.toList.drop df).take (n*size), ?_,by simp;omega,fun w1 Oy=> ?_⟩
     ·rw[show t=(s.drop df).take (n*size)from g2]
      have e:(c.toList.drop df).take (n*size)=((c.toList.take s.length).drop df).take (n*size):=by
       rw[aCH,aCh,aBH (by omega)]
      rw[e];exact(e4.drop df).take _
     ·exact dS P w1 r df (n*size) c ty (lo,hi) (by rw[Oy];exact e1) (by omega)
    ·rename_i s o0 hm;obtain⟨c,ty,lo,hi,e1,e2,e3,e4⟩:=hw.Nt hm hr;obtain⟨g1,g2⟩:=jt h
     have ho:df=off:=by
      rcases hg with hg|hg
      ·exact(h3 hg).2
      ·by_cases hz:grow=0
       ·exact(h3 hz).2
       ·have:=(h4 (by omega)).2;exact h1 (by omega)
     subst ho;have g1':df+n*size<=s.length:=g1;refine⟨(c.toList.drop df).take (n*size), ?_,by simp;omega,fun w1 Oy=> ?_⟩
     ·rw[show t=(s.drop df).take (n*size)from g2]
      have e:(c.toList.drop df).take (n*size)=((c.toList.take s.length).drop df).take (n*size):=by
       rw[aCH,aCh,aBH (by omega)]
      rw[e];exact(e4.drop df).take _
     ·exact dS P w1 r df (n*size) c ty (lo,hi) (by rw[Oy];exact e1) (by omega)
    ·cases h
   ·cases h
 ·cases h
inductive Ca where
 |toInt (k:IntKind)
 |same
 |bytesOf (e:TypeId)
 |strOf
def dB (c:Ca)(x:CV)(st:St):OR:=
 match c,x with
 | .toInt k, .int _ n=> .ok (.int k (k.wrap n)) st
 | .same, .str l=> .ok (.str l) st
 | .bytesOf e, .str l=> .ok (.slice st.next 0 l.length l.length 1) ⟨st.mem.put st.next (some (.cells (l.map bN) e true)),st.next+1⟩
 | .strOf, .ae=> .ok (.str []) st
 | .strOf, .slice b off len cap grow=>(match dH 1 len (.slice b off len cap grow) st with
   |some t=>(match GG t with|some l=> .ok (.str l) st|none=> .bad)
   |_=> .bad)
 |_,_=> .bad
def Gf (P:Program)(c:Ca)(src dst:TypeId):Prop:=
 match c with
 | .toInt k=>P.underlying dst=some (.int k)/\∃d,P.underlying src=some d
 | .same=>P.underlying dst=some .string/\P.underlying src=some .string
 | .bytesOf e=>P.underlying dst=some (.slice e)/\P.underlying e=some (.int .u8)/\P.underlying src=some .string
 | .strOf=>∃e,P.underlying src=some (.slice e)/\P.underlying e=some (.int .u8)/\P.underlying dst=some .string
theorem Iu (l:List Int):∀s:ByteArray,l.foldl (fun r n=>r.push (UInt8.ofNat n.toNat)) s=⟨s.data++(l.map fun n=>UInt8.ofNat n.toNat).toArray⟩:=by
 induction l with
 |nil=>intro s;simp
 |cons a l ih=>
  intro s;rw[List.foldl_cons,ih]
  congr 1
  apply Array.ext';simp[ByteArray.push]
theorem Iz {l:List UInt8}{vs:List Value}(h:eu ρ (l.map bN) vs):vs=(l.map fun x:UInt8=>(x.toNat:Int)).map (Value.int .u8):=by
 have:=(VR.DK h).sQ;simp only[Value.agg.injEq]at this;have:=congrArg Array.toList this;simp only[]at this;rw[this,aDo];rfl
theorem EO {c:Ca}{src dst:TypeId}{x:CV}{x':Value}(h:dB c x st= .ok v st')(hw:WR ρ st w)(hx:VR ρ x x')(hf:Gf P c src dst):
 bI P (convert src dst x') ρ st w v st':=by
 unfold dB at h
 split at h
 ·obtain⟨h1,d,h2⟩:=hf;cases h;cases hx;refine bI.still hw ?_ (.int _ _);simp only[convert,Sem.run_bind,aBd h2,aBd h1,Result.andThen_ok];cases d<;>simp[Conv.intToInt]
 ·obtain⟨h1,h2⟩:=hf;cases h;cases hx;refine bI.still hw ?_ (.str _);simp[convert,aBd h2,aBd h1]
 ·rename_i e l;obtain⟨h1,h2,h3⟩:=hf;cases h;cases hx
  let cap:=(Question.appendCap l.length 0 e).cut (w.tape w.drawn (.appendCap l.length 0 e))
  have FF:l.length<=cap:=by show l.length<=l.length+_;omega
  let o:Obj:= .cells (((fI l).data.map fun b=>Value.int .u8 b.toNat)++Array.replicate (cap-l.length) (.int .u8 0)) e (cap,cap+1)
  have lj:((fI l).data.map fun b=>Value.int .u8 b.toNat).toList=(l.map fun x:UInt8=>Value.int .u8 (x.toNat:Int)):=by
   simp[fI]
  have hsz:(((fI l).data.map fun b=>Value.int .u8 b.toNat)++Array.replicate (cap-l.length) (Value.int .u8 0)).size=cap:=by
   have:(fI l).data.size=l.length:=ku l;simp[this];omega
  have hb:∀ρ,BR ρ (.cells (l.map bN) e true) o cap:=fun ρ=>by
   have hs:(l.map bN).length=l.length:=by simp
   have:=BR.cells (ρ:=ρ) (l.map bN) e true (((fI l).data.map fun b=>Value.int .u8 b.toNat)++Array.replicate (cap-l.length) (.int .u8 0)) cap (cap+1) (by rw[hs,hsz];exact FF)
    (by
     rw[Array.toList_append,lj,hs];rw[aCm (by simp)];exact eu.bytes ρ l)
    (fun k hk=>by rw[hsz]at hk;omega) (fun h=>by cases h)
   rw[hsz]at this;exact this
  have ha:=bf.new (hw.Du (w':={w with drawn:=w.drawn+1}) rfl) (hb (ρ.set st.next (w.heap.size,cap)));have hd:=bf.draw hw (w.drawn+1);refine⟨.slice (some ⟨w.heap.size,0,none⟩) l.length cap,_,_, ?_, .nj _ _ 0 _ _ cap 1 _ _ ha.2 (by omega) (aAU _) FF (fun _=>rfl) (by omega),hd.trans ha.1⟩;have hs:(fI l).size=l.length:=ku l;simp only[convert,Sem.run_bind,aBd h3,aBd h1,aBd h2,Result.andThen_ok,Conv.stringToBytes,run_choose,hs];simp only[Question.forced,aAR,aBf,Result.andThen_ok,newRow,Sem.run_bind,run_newObj,Sem.run_pure]
  have OF:({heap:=w.heap.push (.cells (((fI l).data.map fun b=>Value.int .u8 b.toNat)++Array.replicate (cap-l.length) (.int .u8 0)) e),tape:=w.tape,drawn:=w.drawn+1,os:=w.os,output:=w.output}:World).shape? w.heap.size=some (e,cap):=by
   simp only[World.shape?,Array.getElem?_push_size,hsz]
  simp only[markStringish,Sem.run_bind,run_shape,Result.andThen_ok];rw[show(Question.appendCap l.length 0 e).cut (w.tape w.drawn (Question.appendCap l.length 0 e))=cap from rfl,OF];simp only[run_freeze,Result.andThen_ok]
  congr 1
  simp only[World.freeze,Nat.succ_ne_zero,aBf,World.mk.injEq,and_true];apply Array.ext
  ·simp
  ·intro k h1 h2;simp only[Array.getElem_modify,Array.getElem_push]
   by_cases hk:k=w.heap.size
   ·subst hk;simp[o]
   ·have:k<w.heap.size:=by simp at h2;omega
    simp[this,aBU hk]
 ·obtain⟨e,h1,h2,h3⟩:=hf;cases h;cases hx;refine bI.still hw ?_ (.str []);rw[run_convert_bytes_string w src dst e none 0 0 h1 h2 h3]
  rfl
 ·rename_i b off len cap grow;obtain⟨e,h1,h2,h3⟩:=hf;cases hs:dH 1 len (.slice b off len cap grow) st with
  |none=>rw[hs]at h;cases h
  |some t=>
   rw[hs]at h;obtain⟨vs,g1,g2,g3⟩:=lu (P:=P) hs (fun _ h _=>by cases h) hw hx;obtain⟨r,sz,df,eZ,rfl,hr,_⟩:=hx.eF;have Pv:=g3 w rfl;simp only[Builtin.firstCells,aCF]at Pv;dsimp only at h;cases hl:GG t with
   |none=>rw[hl]at h;cases h
   |some l=>
    rw[hl]at h;cases h;have hv:=Iz (by rw[uI hl]at g1;exact g1);rw[hv]at Pv;refine bI.still hw ?_ (.str l);rw[run_convert_bytes_string w src dst e _ _ _ h1 h2 h3,run_bytesToString w _ _ _ _ Pv,Iu]
    congr 2
    unfold fI
    congr 1
    apply Array.ext';simp[aDo,Function.comp_def]
 ·cases h
end
section
variable {P:Program} {ρ:Ren} {st st':St} {w:World} {v:CV}
def DG (x:Option CV)(Yy y:Nat):Option Nat:=
 match x with
 |none=>some Yy
 |some (.int _ (.ofNat n))=>bC (Nat.ble n y) (some n) none
 |_=>none
theorem jj {x:CV}{x':Value}{Yy y n:Nat}(h:DG (some x) Yy y=some n)(hx:VR ρ x x'){Y:Nat}(hY:y<=Y)(code:BoundsCode):
 (Instr.sliceBound x' Y code).run P w= .ok n w/\n<=y:=by
 unfold DG at h
 split at h
 ·rename_i e;cases e
 ·rename_i k m e;cases e;simp only[aM,aBy]at h
  split at h
  ·rename_i hle;cases h;cases hx;refine⟨?_,hle⟩;have h1:(0:Int)<=Int.ofNat n/\Int.ofNat n<=(Y:Int):=⟨aDg _,by show(n:Int)<=Y;omega⟩;simp only[Instr.sliceBound,asIntOf,Sem.run_bind,Sem.run_pure,Result.andThen_ok,Sem.run_ite,aBb h1]
   rfl
  ·cases h
 ·cases h
def Qv (ρ:Ren)(x:Option CV)(x':Option Value):Prop:=match x,x' with|none,none=>True|some x,some x'=>VR ρ x x'|_,_=>False
def mS (lo hi:Option CV)(len cap:Nat):Option (Nat×Nat):=
 match DG hi len cap with
 |some h=>(match DG lo 0 h with|some l=>some (l,h)|none=>none)
 |none=>none
theorem mJ {isSlice:Bool}{lo hi:Option CV}{kG fw:Option Value}{len cap eZ l h:Nat}(hb:mS lo hi len cap=some (l,h))(h1:Qv ρ lo kG)(h2:Qv ρ hi fw)(hc:cap<=eZ)
 (hl:hi=none->len<=cap):(Instr.sliceBounds isSlice len eZ kG fw none).run P w= .ok (l,h,eZ) w/\l<=h/\h<=cap:=by
 unfold mS at hb;cases e1:DG hi len cap with
 |none=>rw[e1]at hb;cases hb
 |some h0=>
  rw[e1]at hb;cases e2:DG lo 0 h0 with
  |none=>dsimp only at hb;rw[e2]at hb;cases hb
  |some l0=>
   dsimp only at hb;rw[e2]at hb;cases hb
   have H:h<=cap:=by
    cases hi with
    |none=>cases e1;exact hl rfl
    |some x=>cases fw with
     |none=>exact h2.elim
     |some x'=>exact(jj (P:=P) (w:=w) e1 h2 (aAU _) .index).2
   have L:l<=h:=by
    cases lo with
    |none=>cases e2;omega
    |some x=>cases kG with
     |none=>exact h1.elim
     |some x'=>exact(jj (P:=P) (w:=w) e2 h1 (aAU _) .index).2
   refine⟨?_,L,H⟩;cases hi with
   |none=>
    cases fw with
    |some _=>exact h2.elim
    |none=>
     cases e1;cases lo with
     |none=>cases kG with
      |some _=>exact h1.elim
      |none=>cases e2;simp[Instr.sliceBounds]
     |some x=>cases kG with
      |none=>exact h1.elim
      |some x'=>simp[Instr.sliceBounds,(jj (P:=P) (w:=w) e2 h1 (aAU _) .sliceB).1]
   |some y=>
    cases fw with
    |none=>exact h2.elim
    |some y'=>
     have E1:∀code,(Instr.sliceBound y' eZ code).run P w= .ok h w:=fun code=>(jj (P:=P) (w:=w) e1 h2 hc code).1;cases lo with
     |none=>cases kG with
      |some _=>exact h1.elim
      |none=>cases e2;cases isSlice<;>simp[Instr.sliceBounds,E1]
     |some x=>cases kG with
      |none=>exact h1.elim
      |some x'=>cases isSlice<;>simp[Instr.sliceBounds,E1,(jj (P:=P) (w:=w) e2 h1 (aAU _) .sliceB).1]
def kD (x:CV)(lo hi:Option CV)(st:St):OR:=
 match x with
 | .str s=>(match mS lo hi s.length s.length with|some (l,h)=> .ok (.str ((s.drop l).take (h-l))) st|none=> .bad)
 |_=> .bad
theorem uK (s:List UInt8)(l h:Nat):(fI s).extract l h=fI ((s.drop l).take (h-l)):=by
 unfold fI;apply ByteArray.ext;rw[ByteArray.data_extract];apply Array.ext';simp only[Array.toList_extract,List.extract_eq_take_drop]
theorem xB {t:TypeId}{x:CV}{x':Value}{lo hi:Option CV}{kG fw:Option Value}(h:kD x lo hi st= .ok v st')(hw:WR ρ st w)(hx:VR ρ x x')(h1:Qv ρ lo kG)(h2:Qv ρ hi fw)
 (hu:P.underlying t=some .string):bI P (Instr.sliceAt t x' kG fw none) ρ st w v st':=by
 unfold kD at h
 split at h
 ·rename_i s
  split at h
  ·rename_i l k hb;cases h;cases hx;obtain⟨b1,b2,b3⟩:=mJ (P:=P) (w:=w) (isSlice:=false) hb h1 h2 (aAU _) (fun _=>aAU _);refine bI.still hw (v':= .string ((fI s).extract l k)) ?_ (by rw[uK];exact .str _);have e:(fI s).size=s.length:=ku s;simp[Instr.sliceAt,aBd hu,Instr.slice,e,b1]
  ·cases h
 ·cases h
def aN (size:Nat)(x:CV)(lo hi:Option CV)(st:St):OR:=
 match x with
 | .ae=>(match mS lo hi 0 0 with|some _=> .ok .ae st|none=> .bad)
 | .slice b off len cap grow=>bC (Nat.ble len cap) (match mS lo hi len cap with
   |some (l,h)=>nS (Nat.sub h l) fun n=>nS (Nat.sub cap l) fun c=>
    bC (Bool.and (Nat.beq grow 0) (Nat.beq l cap)) (.ok (.slice b off n c grow) st) (nS (Nat.add off (Nat.mul l size)) fun o=>bC (Bool.or (Nat.beq grow 0) (Nat.beq grow size)) (.ok (.slice b o n c grow) st) .bad)
   |none=> .bad) .bad
 |_=> .bad
theorem yN {t e:TypeId}{size:Nat}{x:CV}{x':Value}{lo hi:Option CV}{kG fw:Option Value}(h:aN size x lo hi st= .ok v st')(hw:WR ρ st w)(hx:VR ρ x x')(h1:Qv ρ lo kG)(h2:Qv ρ hi fw)
 (hu:P.underlying t=some (.slice e)) (hs:(Go.sizeOf e).run P w= .ok size w):bI P (Instr.sliceAt t x' kG fw none) ρ st w v st':=by
 unfold aN at h
 split at h
 ·split at h
  ·rename_i lh hb;obtain⟨l,k⟩:=lh;cases h;cases hx;obtain⟨b1,b2,b3⟩:=mJ (P:=P) (w:=w) (isSlice:=true) hb h1 h2 (aAU _) (fun _=>aAU _);have hk:k=0:=by omega
   have hl:l=0:=by omega
   subst hk;subst hl;refine bI.still hw ?_ .ae;simp[Instr.sliceAt,aBd hu,Instr.slice,b1,hs]
  ·cases h
 ·rename_i b off len cap grow;rw[aM]at h
  split at h
  rotate_left
  ·cases h
  rename_i SI;rw[aBy]at SI
  split at h
  ·rename_i l k hb;rw[dE,dE]at h;obtain⟨r,sz,df,eZ,rfl,hr,c1,c2,c3,c4⟩:=hx.eF;obtain⟨b1,b2,b3⟩:=mJ (P:=P) (w:=w) (isSlice:=true) hb h1 h2 c2 (fun _=>SI)
   have jv:(Instr.sliceAt t (.slice (some ⟨r,df,none⟩) len eZ) kG fw none).run P w=
    .ok (.slice (if eZ=l then some ⟨r,df,none⟩else some ⟨r,df+l*size,none⟩) (k-l) (eZ-l)) w:=by
    simp[Instr.sliceAt,aBd hu,Instr.slice,b1,hs,jV]
   simp only[aM,aBp,aBS,aBB,dE]at h
   split at h
   ·rename_i hg;obtain⟨hg,hl⟩:=hg;cases h;obtain⟨e1,e2⟩:=c3 hg;subst hg;subst e1;subst e2;subst hl;refine bI.still hw jv ?_;rw[aBb rfl];exact .slice _ _ _ _ r sz hr
   ·rename_i hng
    split at h
    ·rename_i hg
     ·cases h
      by_cases hz:grow=0
      ·obtain⟨e1,e2⟩:=c3 hz;subst hz;subst e1;subst e2;refine bI.still hw jv ?_;rw[aAZ (fun e=>hng ⟨rfl,e.symm⟩)];exact .slice _ _ _ _ r sz hr
      ·have hgs:grow=size:=by rcases hg with hg|hg;exact absurd hg hz;exact hg
       obtain⟨d1,d2⟩:=c4 (by omega);refine bI.still hw jv ?_
       have key:∀o',o'+(eZ-l)*grow<=sz->(0<cap-l->o'=off+l*size)->
        VR ρ (.slice b (off+l*size) (k-l) (cap-l) grow) (.slice (some ⟨r,o',none⟩) (k-l) (eZ-l)):=fun o' ho1 ho2=>
        .nj _ _ o' _ _ (eZ-l) grow r sz hr (by omega) (by omega) (by omega) ho2 ho1
       split
       ·rename_i oF;exact key df (by rw[oF,Nat.sub_self,aDE];omega) (by omega)
       ·refine key (df+l*size) ?_ (fun hp=>by rw[c1 (by omega)])
        have:l*size+(eZ-l)*grow=eZ*grow:=by
         rw[hgs,<-aBZ];congr 1;omega
        omega
    ·cases h
  ·cases h
 ·cases h
def iz (size:Nat)(x:CV)(lo:Option CV)(hi mx:CV)(st:St):OR:=
 match x with
 | .slice b off len cap grow=>(match DG (some mx) 0 cap with
   |some m=>(match mS lo (some hi) len m with
    |some (l,h)=>bC (Bool.or (Nat.beq grow 0) (Nat.ble (Nat.succ l) cap)) (nS (Nat.sub h l) fun n=>nS (Nat.sub m l) fun c=>bC (Nat.beq m l) (.ok (.slice b off n c 0) st) (nS (Nat.add off (Nat.mul l size)) fun o=> .ok (.slice b o n c 0) st)) .bad
    |none=> .bad)
   |none=> .bad)
 | .ae=>(match DG (some mx) 0 0 with
   |some m=>(match mS lo (some hi) 0 m with|some _=> .ok .ae st|none=> .bad)
   |none=> .bad)
 |_=> .bad
theorem AA {t e:TypeId}{size:Nat}{x:CV}{x':Value}{lo:Option CV}{kG:Option Value}{hi mx:CV}{fw Y7:Value}(h:iz size x lo hi mx st= .ok v st')(hw:WR ρ st w)(hx:VR ρ x x')(h1:Qv ρ lo kG)(h2:VR ρ hi fw)(h3:VR ρ mx Y7)
 (hu:P.underlying t=some (.slice e)) (hs:(Go.sizeOf e).run P w= .ok size w):bI P (Instr.sliceAt t x' kG (some fw) (some Y7)) ρ st w v st':=by
 unfold iz at h
 split at h
 ·rename_i b off len cap grow
  split at h
  ·rename_i m hm
   split at h
   ·rename_i l k hb;obtain⟨r,sz,df,eZ,rfl,hr,c1,c2,c3,c4⟩:=hx.eF;obtain⟨m1,m2⟩:=jj (P:=P) (w:=w) hm h3 c2 .slice3Acap;unfold mS at hb;cases e1:DG (some hi) len m with
    |none=>rw[e1]at hb;cases hb
    |some h0=>
     rw[e1]at hb;cases e2:DG lo 0 h0 with
     |none=>dsimp only at hb;rw[e2]at hb;cases hb
     |some l0=>
      dsimp only at hb;rw[e2]at hb;cases hb;obtain⟨k1,k2⟩:=jj (P:=P) (w:=w) e1 h2 (aAU _) .slice3B
      have hl:l<=k/\(Instr.sliceBounds true len eZ kG (some fw) (some Y7)).run P w= .ok (l,k,m) w:=by
       cases lo with
       |none=>cases kG with
        |some _=>exact h1.elim
        |none=>cases e2;exact⟨by omega,by simp[Instr.sliceBounds,m1,k1]⟩
       |some y=>cases kG with
        |none=>exact h1.elim
        |some y'=>
         obtain⟨l1,l2⟩:=jj (P:=P) (w:=w) e2 h1 (aAU _) .slice3C;exact⟨l2,by simp[Instr.sliceBounds,m1,k1,l1]⟩
      have jv:(Instr.sliceAt t (.slice (some ⟨r,df,none⟩) len eZ) kG (some fw) (some Y7)).run P w=
       .ok (.slice (if m=l then some ⟨r,df,none⟩else some ⟨r,df+l*size,none⟩) (k-l) (m-l)) w:=by
       simp[Instr.sliceAt,aBd hu,Instr.slice,hl.2,hs,jV]
      simp only[aM,aBS,aBB,aBy,dE]at h
      split at h
      ·rename_i hg
       have ho:df=off:=by
        rcases hg with hg|hg
        ·exact(c3 hg).2
        ·exact c1 (by omega)
       subst ho
       split at h
       ·rename_i QM;cases h;refine bI.still hw jv ?_;rw[aBb QM];exact .slice _ _ _ _ r sz hr
       ·rename_i QM;cases h;refine bI.still hw jv ?_;rw[aAZ QM];exact .slice _ _ _ _ r sz hr
      ·cases h
   ·cases h
  ·cases h
 ·split at h
  ·rename_i m hm
   split at h
   ·rename_i lh hb;obtain⟨l,k⟩:=lh;cases h;cases hx;obtain⟨m1,m2⟩:=jj (P:=P) (w:=w) hm h3 (aAU 0) .slice3Acap;have K0:m=0:=by omega
    subst K0;unfold mS at hb;cases e1:DG (some hi) 0 0 with
    |none=>rw[e1]at hb;cases hb
    |some h0=>
     rw[e1]at hb;cases e2:DG lo 0 h0 with
     |none=>dsimp only at hb;rw[e2]at hb;cases hb
     |some l0=>
      dsimp only at hb;rw[e2]at hb;cases hb;obtain⟨k1,k2⟩:=jj (P:=P) (w:=w) e1 h2 (aAU _) .slice3B;have JC:k=0:=by omega
      subst JC
      have hl:l<=0/\(Instr.sliceBounds true 0 0 kG (some fw) (some Y7)).run P w= .ok (l,0,0) w:=by
       cases lo with
       |none=>cases kG with
        |some _=>exact h1.elim
        |none=>cases e2;exact⟨by omega,by simp[Instr.sliceBounds,m1,k1]⟩
       |some y=>cases kG with
        |none=>exact h1.elim
        |some y'=>
         obtain⟨l1,l2⟩:=jj (P:=P) (w:=w) e2 h1 (aAU _) .slice3C;exact⟨l2,by simp[Instr.sliceBounds,m1,k1,l1]⟩
      have hl0:l=0:=by omega
      subst hl0;refine bI.still hw ?_ .ae;simp[Instr.sliceAt,aBd hu,Instr.slice,hl.2,hs]
   ·cases h
  ·cases h
 ·cases h
def bP (n size:Nat)(x:CV)(lo hi:Option CV)(st:St):OR:=
 match x with
 | .ptr b off=>(match mS lo hi n n with
   |some (l,h)=>nS (Nat.sub h l) fun k=>nS (Nat.sub n l) fun c=>bC (Nat.beq n l) (.ok (.slice b off k c 0) st) (nS (Nat.add off (Nat.mul l size)) fun o=> .ok (.slice b o k c 0) st)
   |none=> .bad)
 |_=> .bad
theorem xC {t e:TypeId}{n size:Nat}{x:CV}{x':Value}{lo hi:Option CV}{kG fw:Option Value}(h:bP n size x lo hi st= .ok v st')(hw:WR ρ st w)(hx:VR ρ x x')(h1:Qv ρ lo kG)(h2:Qv ρ hi fw)
 (hu:P.underlying t=some (.array n e)) (hs:(Go.sizeOf e).run P w= .ok size w):bI P (Instr.sliceAt t x' kG fw none) ρ st w v st':=by
 unfold bP at h
 split at h
 ·rename_i b off
  split at h
  ·rename_i l k hb;cases hx with
   |ptr _ _ r sz hr=>
    obtain⟨b1,b2,b3⟩:=mJ (P:=P) (w:=w) (isSlice:=false) hb h1 h2 (aAU _) (fun _=>aAU _)
    have jv:(Instr.sliceAt t (.pointer (some ⟨r,off,none⟩)) kG fw none).run P w=
     .ok (.slice (some (if n=l then ⟨r,off,none⟩else ⟨r,off+l*size,none⟩)) (k-l) (n-l)) w:=by
     simp[Instr.sliceAt,aBd hu,Instr.sureAddr,b1,hs,jV]
    simp only[aM,aBB,dE]at h
    split at h
    ·rename_i Ff;cases h;refine bI.still hw jv ?_;rw[aBb Ff];exact .slice _ _ _ _ r sz hr
    ·rename_i Ff;cases h;refine bI.still hw jv ?_;rw[aAZ Ff];exact .slice _ _ _ _ r sz hr
  ·cases h
 ·cases h
def ow (n:Nat)(x:CV)(st:St):OR:=
 match x with| .slice b off len cap grow=>bC (Bool.and (Nat.ble n len) (Bool.or (Nat.beq grow 0) (Bool.and (Nat.ble 1 cap) (Nat.ble len cap)))) (.ok (.ptr b off) st) .bad|_=> .bad
theorem EJ {t e:TypeId}{n:Nat}{x:CV}{x':Value}(h:ow n x st= .ok v st')(hw:WR ρ st w)(hx:VR ρ x x')(hu:P.underlying t=some (.array n e)):bI P (Instr.arrayAt t x') ρ st w v st':=by
 unfold ow at h
 split at h
 ·rename_i b off len cap grow;simp only[aM,aBp,aBS,aBB,aBy]at h
  split at h
  ·rename_i hg;cases h;obtain⟨r,sz,df,eZ,rfl,hr,c1,c2,c3,c4⟩:=hx.eF
   have ho:df=off:=by
    rcases hg.2 with hg|hg
    ·exact(c3 hg).2
    ·exact c1 (by omega)
   subst ho;refine bI.still hw ?_ (.ptr _ _ r sz hr);have:¬len<n:=by omega
   simp[Instr.arrayAt,aBd hu,this]
  ·cases h
 ·cases h
def an (off:Nat)(x:CV)(st:St):OR:=match x with| .ptr b o=>nS (Nat.add o off) fun o=> .ok (.ptr b o) st|_=> .bad
theorem wc {t:TypeId}{i:Nat}{fs:Array Field}{f:Field}{off n:Nat}{x:CV}{x':Value}(h:an off x st= .ok v st')(hw:WR ρ st w)(hx:VR ρ x x')(hu:P.underlying t=some (.struct fs))
 (hf:fs[i]?=some f) (ho:f.offset=off) (hs:(Go.sizeOf f.type).run P w= .ok n w) (hn:n≠0):bI P (Instr.fieldAt t x' i) ρ st w v st':=by
 unfold an at h
 split at h
 ·rename_i b o;rw[dE]at h;cases h;cases hx with
  |ptr _ _ r sz hr=>
   refine bI.still hw ?_ (.ptr _ _ r sz hr);simp[Instr.fieldAt,aBd hu,hf,Instr.sureAddr,fieldPlace,hs,hn,jV,ho]
 ·cases h
def yQ (agg:Bool)(off size:Nat)(x:CV)(st:St):OR:=match x with| .agg s=>Option.rec .bad (fun v=> .ok v st) (iH agg off size s)|_=> .bad
theorem CI {t:TypeId}{i:Nat}{fs:Array Field}{f:Field}{ti:TypeInfo}{u:TypeDesc}{x:CV}{x':Value}(h:yQ (ib u) f.offset ti.size x st= .ok v st')(hw:WR ρ st w)(hx:VR ρ x x')(hu:P.underlying t=some (.struct fs))
 (hf:fs[i]?=some f) (hi:P.info? f.type=some ti) (hut:P.underlying f.type=some u):bI P (Instr.field t x' i) ρ st w v st':=by
 unfold yQ at h
 split at h
 ·rename_i s;cases hc:iH (ib u) f.offset ti.size s with
  |none=>rw[hc]at h;cases h
  |some y=>
   rw[hc]at h;cases h;cases hx with
   |agg _ l hl hh=>
    obtain⟨y',p1,p2⟩:=ir (P:=P) (w:=w) hc ⟨hl,hh⟩ hi rfl hut rfl;refine bI.still hw ?_ p2;simp[Instr.field,aBd hu,hf,asAgg,p1]
 ·cases h
def fK (n size:Nat)(x i:CV)(st:St):OR:=
 match x,i with| .ptr b o, .int _ (.ofNat j)=>bC (Nat.ble (Nat.succ j) n) (nS (Nat.add o (Nat.mul j size)) fun o=> .ok (.ptr b o) st) .bad|_,_=> .bad
def cU (size:Nat)(x i:CV)(st:St):OR:=
 match x,i with| .slice b o len cap grow, .int _ (.ofNat j)=>bC (Bool.and (Nat.ble (Nat.succ j) len) (Bool.or (Nat.beq grow 0) (Nat.ble len cap))) (nS (Nat.add o (Nat.mul j size)) fun o=> .ok (.ptr b o) st) .bad|_,_=> .bad
theorem AE {t e:TypeId}{n size:Nat}{x i:CV}{x' i':Value}(h:fK n size x i st= .ok v st')(hw:WR ρ st w)(hx:VR ρ x x')(hi:VR ρ i i')(hu:P.underlying t=some (.array n e))
 (hs:(Go.sizeOf e).run P w= .ok size w):bI P (Instr.indexAt t x' i') ρ st w v st':=by
 unfold fK at h
 split at h
 ·rename_i b o k j;simp only[aM,aBy,dE]at h
  split at h
  ·rename_i hj;cases h;cases hi;cases hx with
   |ptr _ _ r sz hr=>
    refine bI.still hw ?_ (.ptr _ _ r sz hr);have h1:(0:Int)<=Int.ofNat j/\Int.ofNat j<(n:Int):=⟨aDg _,by show(j:Int)<n;omega⟩;simp only[Instr.indexAt,asIntOf,Sem.run_bind,Sem.run_pure,Result.andThen_ok,aBd hu,Instr.sureAddr,Sem.run_ite,aBb h1,hs,jV]
    rfl
  ·cases h
 ·cases h
theorem CH {t e:TypeId}{size:Nat}{x i:CV}{x' i':Value}(h:cU size x i st= .ok v st')(hw:WR ρ st w)(hx:VR ρ x x')(hi:VR ρ i i')(hu:P.underlying t=some (.slice e))
 (hs:(Go.sizeOf e).run P w= .ok size w):bI P (Instr.indexAt t x' i') ρ st w v st':=by
 unfold cU at h
 split at h
 ·rename_i b o len cap grow k j;simp only[aM,aBp,aBS,aBB,aBy,dE]at h
  split at h
  ·rename_i hj;cases h;cases hi;obtain⟨r,sz,df,eZ,rfl,hr,c1,c2,c3,c4⟩:=hx.eF
   have ho:df=o:=by
    rcases hj.2 with hg|hg
    ·exact(c3 hg).2
    ·exact c1 (by omega)
   subst ho;refine bI.still hw ?_ (.ptr _ _ r sz hr);have h1:(0:Int)<=Int.ofNat j/\Int.ofNat j<(len:Int):=⟨aDg _,by show(j:Int)<len;omega⟩;simp only[Instr.indexAt,asIntOf,Sem.run_bind,Sem.run_pure,Result.andThen_ok,aBd hu,Sem.run_ite,aBb h1,hs,jV]
   rfl
  ·cases h
 ·cases h
def oz (x i:CV)(st:St):OR:=
 match x,i with| .str l, .int _ (.ofNat j)=>(match l[j]? with|some b=> .ok (bN b) st|none=> .bad)|_,_=> .bad
theorem AD {t:TypeId}{x i:CV}{x' i':Value}(h:oz x i st= .ok v st')(hw:WR ρ st w)(hx:VR ρ x x')(hi:VR ρ i i')(hu:P.underlying t=some .string):bI P (Instr.index t x' i') ρ st w v st':=by
 unfold oz at h
 split at h
 ·rename_i l k j
  split at h
  ·rename_i b hj;cases h;cases hi;cases hx;refine bI.still hw ?_ (.int _ _);have h1:(0:Int)<=Int.ofNat j:=aDg _;have hlt:j<l.length:=(aBg.1 hj).1
   have qM:(fI l)[(Int.ofNat j).toNat]?=some b:=by
    show(fI l)[j]?=_;rw[getElem?_pos (fI l) j (by rw[ku];exact hlt)];rw[<-hj,aAV hlt];rfl
   simp only[Instr.index,asIntOf,Sem.run_bind,Sem.run_pure,Result.andThen_ok,aBd hu,aBb h1,qM]
  ·cases h
 ·cases h
def uT (n size:Nat)(agg:Bool)(x i:CV)(st:St):OR:=
 match x,i with| .agg s, .int _ (.ofNat j)=>bC (Nat.ble (Nat.succ j) n) (Option.rec .bad (fun v=> .ok v st) (iH agg (Nat.mul j size) size s)) .bad|_,_=> .bad
theorem AF {t e:TypeId}{n:Nat}{ti:TypeInfo}{u:TypeDesc}{x i:CV}{x' i':Value}(h:uT n ti.size (ib u) x i st= .ok v st')(hw:WR ρ st w)(hx:VR ρ x x')(hi:VR ρ i i')(hu:P.underlying t=some (.array n e))
 (he:P.info? e=some ti) (L8:P.underlying e=some u):bI P (Instr.index t x' i') ρ st w v st':=by
 unfold uT at h
 split at h
 ·rename_i s k j;simp only[aM,aBy]at h
  split at h
  ·rename_i hj;cases hc:iH (ib u) (Nat.mul j ti.size) ti.size s with
   |none=>rw[hc]at h;cases h
   |some y=>
    rw[hc]at h;cases h;cases hi;cases hx with
    |agg _ l hl hh=>
     obtain⟨y',p1,p2⟩:=ir (P:=P) (w:=w) hc ⟨hl,hh⟩ he rfl L8 rfl;refine bI.still hw ?_ p2;have h1:(0:Int)<=Int.ofNat j/\Int.ofNat j<(n:Int):=⟨aDg _,by show(j:Int)<n;omega⟩;have h2:(Go.sizeOf e).run P w= .ok ti.size w:=by simp[Go.sizeOf,typeInfo,he]
     simp only[Instr.index,asIntOf,Sem.run_bind,Sem.run_pure,Result.andThen_ok,aBd hu,Sem.run_ite,aBb h1,h2];exact p1
  ·cases h
 ·cases h
def uc (t:TypeId)(x:CV)(st:St):OR:= .ok (.iface t x) st
theorem CG {t:TypeId}{x:CV}{x':Value}(h:uc t x st= .ok v st')(hw:WR ρ st w)(hx:VR ρ x x')(hc:P.concrete t=true):bI P (Instr.makeInterface t x') ρ st w v st':=by
 cases h;exact bI.still hw (run_makeInterface w t x' hc) (.iface t x x' hx)
end
def cO (c:Nat)(z:List CV):List CV:=(List.replicate c z).flatten
theorem oX (z:Array Value):∀c,((List.range (c*z.size)).map fun i=>z[i%z.size]!)=(List.replicate c z.toList).flatten:=by
 intro c
 induction c with
 |zero=>simp
 |succ c ih=>
  rw[aDb,aCo,<-ih,Nat.succ_mul,aDF,List.range_add,aCj,aDo]
  congr 1
  ·apply List.ext_getElem
   ·simp
   ·intro i h1 h2;simp only[aCa,List.length_range]at h1;simp[aCN h1,h1]
  ·apply List.map_congr_left;intro i _;simp
section
variable {P:Program} {ρ:Ren} {st st':St} {w:World} {v:CV}
theorem eu.flatten {l:List CV}{l':List Value}(h:eu ρ l l')(c:Nat):eu ρ (List.replicate c l).flatten (List.replicate c l').flatten:=by
 induction c with
 |zero=>exact eu.nil ρ
 |succ c ih=>rw[aDb,aDb,aCo,aCo];exact h.app ih
inductive LU where
 |str|slice|map|cap
 |const (n:Nat)
def bo (k:LU)(x:CV)(st:St):OR:=
 match k,x with
 | .const n,_=>ya .i64 st n
 | .str, .str l=>ya .i64 st l.length
 | .slice, .ae=>ya .i64 st 0
 | .slice, .slice _ _ len _ _=>ya .i64 st len
 | .map, .fN=>ya .i64 st 0
 | .map, .map b=>(match st.mem.get b with|some (.map es _)=>nS es.length (ya .i64 st)|some (.lmap es)=>nS es.length (ya .i64 st)|_=> .bad)
 | .cap, .ae=>ya .i64 st 0
 | .cap, .slice _ _ _ cap grow=>bC (Nat.beq grow 0) (ya .i64 st cap) (.ok (.gO cap) st)
 |_,_=> .bad
def Jg (P:Program)(k:LU)(t:TypeId):Prop:=
 match k with
 | .str=>P.underlying t=some .string
 | .slice=>∃e,P.underlying t=some (.slice e)
 | .map=>∃k e,P.underlying t=some (.map k e)
 | .cap=>False
 | .const n=>(∃e,P.underlying t=some (.array n e))\/∃a e,P.underlying t=some (.pointer a)/\P.underlying a=some (.array n e)
theorem WR.map {b:Nat}{es:List (CV×CV×Nat)}{clock r sz:Nat}(h:WR ρ st w)(h1:st.mem.get b=some (.map es clock))(h2:ρ b=some (r,sz)):
 ∃es':List MapEntry,w.heap[r]?=some (.map es'.toArray clock)/\es.length=es'.length/\
  ∀(i:Nat) (e:CV×CV×Nat) (e':MapEntry),es[i]?=some e->es'[i]?=some e'->VR ρ e.1 e'.key/\VR ρ e.2.1 e'.val/\e.2.2=e'.born:=by
 obtain⟨o,e2,e3⟩:=h.at' b _ r sz h1 h2;cases e3 with
 |map _ _ es' hl h=>exact⟨es',e2,hl,h⟩
theorem WR.lmap {b:Nat}{es:List (CV×CV×Nat)}{r sz:Nat}(h:WR ρ st w)(h1:st.mem.get b=some (.lmap es))(h2:ρ b=some (r,sz)):
 ∃(l:List (CV×CV×Nat)) (clock:Nat) (es':List MapEntry),w.heap[r]?=some (.map es'.toArray clock)/\l.Perm es/\(∀e∈es,∃n:Int,e.1= .int .i64 n)/\(es.map (·.1)).Nodup/\Go.MapKept.Stamped es'.toArray clock/\l.length=es'.length/\
  ∀(i:Nat) (e:CV×CV×Nat) (e':MapEntry),l[i]?=some e->es'[i]?=some e'->VR ρ e.1 e'.key/\VR ρ e.2.1 e'.val:=by
 obtain⟨o,e2,e3⟩:=h.at' b _ r sz h1 h2;cases e3 with
 |lmap _ l clock es' hp hi hn hs hl h=>exact⟨l,clock,es',e2,hp,hi,hn,hs,hl,h⟩
theorem dA {r clock:Nat}{es:Array MapEntry}(h:w.heap[r]?=some (.map es clock)):(getObj r).run P w= .ok (.map es clock) w:=by
 simp only[getObj,Sem.run,h]
theorem HF {k:LU}{t ty:TypeId}{x:CV}{x':Value}(h:bo k x st= .ok v st')(hw:WR ρ st w)(hx:VR ρ x x')(hf:Jg P k t)(ats:Array TypeId)(nR:ats[0]?=some t):
 bI P (Builtin.len_ ats ty #[x']) ρ st w v st':=by
 unfold bo at h
 split at h
 ·cases h;refine bI.still hw ?_ (.int _ _);rcases hf with⟨e,hf⟩|⟨a,e,hf,XN⟩
  ·simp only[Builtin.len_,nR,aCk,aAQ,Sem.run_bind,aBd hf,Result.andThen_ok]
   rfl
  ·simp only[Builtin.len_,nR,aCk,aAQ,Sem.run_bind,aBd hf,aBd XN,Result.andThen_ok]
   rfl
 ·cases h;cases hx;refine bI.still hw ?_ (.int _ _);have hf':P.underlying t=some .string:=hf;simp[Builtin.len_,nR,aBd hf',goInt]
 ·cases h;cases hx;obtain⟨e,hf⟩:=hf;refine bI.still hw ?_ (.int _ _);simp[Builtin.len_,nR,aBd hf,goInt]
 ·cases h;obtain⟨e,hf⟩:=hf;obtain⟨r,sz,df,eZ,rfl,_⟩:=hx.eF;refine bI.still hw ?_ (.int _ _);simp[Builtin.len_,nR,aBd hf,goInt]
 ·cases h;cases hx;obtain⟨e,e2,hf⟩:=hf;refine bI.still hw ?_ (.int _ _);simp[Builtin.len_,nR,aBd hf,goInt]
 ·rename_i b;obtain⟨e,e2,hf⟩:=hf
  split at h
  ·rename_i es clock hm;rw[dE]at h;cases h;cases hx with
   |map _ r sz hr=>
    obtain⟨es',h1,h2,h3⟩:=hw.map hm hr;refine bI.still hw ?_ (.int _ _);simp[Builtin.len_,nR,aBd hf,goInt,dA h1,h2]
  ·rename_i es hm;rw[dE]at h;cases h;cases hx with
   |map _ r sz hr=>
    obtain⟨l,clock,es',h1,h2,_,_,_,h3,_⟩:=hw.lmap hm hr;refine bI.still hw ?_ (.int _ _);simp[Builtin.len_,nR,aBd hf,goInt,dA h1,<-h3,h2.length_eq]
  ·cases h
 ·exact hf.elim
 ·exact hf.elim
 ·cases h
theorem HH {t ty:TypeId}{x:CV}{x':Value}(h:bo .cap x st= .ok v st')(hw:WR ρ st w)(hx:VR ρ x x'){e:TypeId}(hf:P.underlying t=some (.slice e))(ats:Array TypeId)(nR:ats[0]?=some t):
 bI P (Builtin.cap_ ats ty #[x']) ρ st w v st':=by
 have e:bo .cap x st=(match (generalizing:=false) x with| .ae=>ya .i64 st 0| .slice _ _ _ cap grow=>bC (Nat.beq grow 0) (ya .i64 st cap) (.ok (.gO cap) st)|_=> .bad):=by cases x<;>rfl
 rw[e]at h
 split at h
 ·cases h;cases hx;refine bI.still hw ?_ (.int _ _);simp[Builtin.cap_,nR,aBd hf,goInt]
 ·rename_i b off len cap grow;obtain⟨r,sz,df,eZ,rfl,hr,c1,c2,c3,c4⟩:=hx.eF;simp only[aM,aBB]at h
  split at h
  ·rename_i hg;cases h;obtain⟨g1,_⟩:=c3 hg;subst g1;refine bI.still hw ?_ (.int _ _);simp[Builtin.cap_,nR,aBd hf,goInt]
  ·cases h;refine bI.still hw (v':= .int .i64 (eZ:Int)) ?_ (.gO _ _ (by exact_mod_cast c2));simp[Builtin.cap_,nR,aBd hf,goInt]
 ·cases h
def pk (e bytes:Nat)(z:List CV)(l c:CV)(st:St):OR:=
 match l,c with
 | .int _ (.ofNat l), .int _ (.ofNat c)=>
   bC (Bool.and (Nat.ble l c) (Bool.and (Nat.ble (Nat.mul bytes c) 281474976710656) (Nat.ble c 9223372036854775807)))
    (.ok (.slice st.next 0 l c 0) ⟨st.mem.put st.next (some (.cells (cO c z) e false)),st.next+1⟩) .bad
 |_,_=> .bad
theorem EL {t e bytes:TypeId}{i:TypeInfo}{z:List CV}{z':Value}{l c:CV}{l' c':Value}(h:pk e bytes z l c st= .ok v st')(hw:WR ρ st w)(hl:VR ρ l l')(hc:VR ρ c c')
 (hu:P.underlying t=some (.slice e)) (hi:P.info? e=some i) (hz:i.zero=some z') (hb:i.bytes=bytes) (hsz:z'.cells.size=i.size) (vT:∀ρ,eu ρ z z'.cells.toList):
 bI P (Instr.makeSlice t l' c') ρ st w v st':=by
 unfold pk at h
 split at h
 ·rename_i k1 l k2 c;simp only[aM,aBp,aBy]at h
  split at h
  ·rename_i hg;cases h;cases hl;cases hc;obtain⟨g1,g2,g3⟩:=hg
   have jv:=run_make w t e i z' hu hi hz k1 k2 (l:Int) (c:Int) (aDg _) (Int.ofNat_le.2 g1) (by
    rw[hb];have:bytes*c<=281474976710656:=g2;have h4:((bytes*c:Nat):Int)<=281474976710656:=Int.ofNat_le.2 this
    rwa [Int.natCast_mul]at h4) (Int.ofNat_le.2 g3)
   have XW:(madeCells z'.cells (c*i.size)).toList=(List.replicate c z'.cells.toList).flatten:=by
    rw[<-hsz,madeCells,aCz,aDt];exact oX z'.cells c
   obtain⟨ρ',h1,h2,h3⟩:=bf.newRow (P:=P) (t:=e) (s:=cO c z) (l:=(madeCells z'.cells (c*i.size)).toList) hw (fun ρ' _=>by
    rw[XW];exact(vT ρ').flatten c) false
   refine⟨_,_,ρ',jv, ?_, ?_⟩
   ·have:=VR.slice (ρ:=ρ') st.next 0 l c w.heap.size _ h2
    simpa using this
   ·rw[aCw]at h3;exact h3
  ·cases h
 ·cases h
inductive Gw where
 |slice|str|zeros
def dg (k:Gw)(size:Nat)(z:List CV)(x:CV)(st:St):Option (Nat×List CV):=
 match k,x with
 | .slice, .ae=>some (0,[])
 | .slice, .slice b off len cap grow=>(match dH size len (.slice b off len cap grow) st with|some s=>some (len,s)|none=>none)
 | .str, .str l=>some (l.length,l.map bN)
 | .zeros, .int _ (.ofNat n)=>bC (Nat.ble n 1099511627776) (some (n,cO n z)) none
 |_,_=>none
def Co (P:Program)(k:Gw)(u:TypeId)(size:Nat):Prop:=
 match k with
 | .slice=>∃e,P.underlying u=some (.slice e)
 | .str=>P.underlying u=some .string/\size=1
 | .zeros=>∃j,P.underlying u=some (.int j)
def lS (elem:TypeId)(size:Nat)(zeros:Bool)(n:Nat)(ia:Sem (Array Value))(base:Option Addr)(sLen sCap:Nat)(s x:Value):Sem Value:=do
 let need:=sLen+n
 if need<=sCap then
  let new<-ia
  if let some a:=base then storeCells (a.add (sLen*size)) new.toList
  pure (.slice base need sCap)
 else
  if (need:Int)>IntKind.i64.max/\(zeros\/(<-typeInfo elem).bytes=0)then runtimePanic (.error "growslice: len out of range")
  if Builtin.nextslicecap need sCap*(<-typeInfo elem).bytes>2^48 then (if zeros then runtimePanic (.error "growslice: len out of range")else do
   if !(<-Builtin.mayShare size sLen n base x)then mark .noRoom
   unsupported (.resourceLimit "append: a slice or a string whose bytes no memory bears"))
  let HL<-choose (.appendCap need sCap elem)
  askRoom (HL*(<-typeInfo elem).bytes)
  let RW<-Builtin.firstCells size sLen s
  let new<-ia
  let rest:=Builtin.zeroCells (<-zeroValue elem).cells (HL-need)
  pure (.slice (some (<-newRow elem (RW++new++rest))) need HL)
theorem A8 {k:Gw}{t u ty e size:TypeId}{i:TypeInfo}{z:List CV}{z':Value}{x:CV}{x':Value}{n:Nat}{s:List CV}(h:dg k size z x st=some (n,s))(hw:WR ρ st w)(hx:VR ρ x x')
 (hf:Co P k u size) (hu:P.underlying t=some (.slice e)) (hi:P.info? e=some i) (hz:i.zero=some z') (hs:i.size=size) (hsz:z'.cells.size=size) (vT:∀ρ,eu ρ z z'.cells.toList) (hb:k= .zeros->i.bytes<=256):
 ∃vs zeros ia,eu ρ s vs/\vs.length=n*size/\(∀w1:World,w1.heap=w.heap->ia.run P w1= .ok vs.toArray w1)/\
  ∀base sLen sCap,(Builtin.append_ #[t,u] ty #[.slice base sLen sCap,x']).run P w=(lS e size zeros n ia base sLen sCap (.slice base sLen sCap) x').run P w:=by
 have mE:(Go.sizeOf e).run P w= .ok size w:=by simp[Go.sizeOf,typeInfo,hi,hs]
 unfold dg at h
 split at h
 ·cases h;cases hx;obtain⟨e2,hf⟩:=hf;refine⟨[],false,Builtin.firstCells size 0 (.slice none 0 0),eu.nil ρ,by simp,fun w1 _=>by simp[Builtin.firstCells],fun base sLen sCap=> ?_⟩;simp only[Builtin.append_,aCk,aAQ,aAS,Sem.run_bind,aBd hu,aBd hf,Result.andThen_ok,mE,Sem.run_pure,Builtin.lenOf,lS,aBk,aBr,aAR,aBf]
  rfl
 ·rename_i b off len cap grow
  split at h
  ·rename_i s' tD;cases h;obtain⟨e2,hf⟩:=hf;obtain⟨vs,g1,g2,g3⟩:=lu (P:=P) tD (fun _ h _=>by cases h) hw hx;obtain⟨r,sz,df,eZ,rfl,_⟩:=hx.eF;refine⟨vs,false,_,g1,g2,g3,fun base sLen sCap=> ?_⟩;simp only[Builtin.append_,aCk,aAQ,aAS,Sem.run_bind,aBd hu,aBd hf,Result.andThen_ok,mE,Sem.run_pure,Builtin.lenOf,lS,aBk,aBr,aAR,aBf]
   rfl
  ·cases h
 ·rename_i m;cases h;cases hx;obtain⟨hf,rfl⟩:=hf;refine⟨(m.map fun y:UInt8=>Value.int .u8 (y.toNat:Int)),false,Builtin.firstCells 1 m.length (.string (fI m)), ?_,by simp,fun w1 _=> ?_,fun base sLen sCap=> ?_⟩
  ·exact eu.bytes ρ m
  ·simp only[Builtin.firstCells,Sem.run_pure]
   congr 1
   apply Array.ext'
   have hlen:(fI m).extract 0 m.length=fI m:=by
    have h:(fI m).extract 0 (fI m).size=fI m:=ByteArray.extract_zero_size
    rwa [ku]at h
   rw[hlen];simp[fI]
  ·simp only[Builtin.append_,aCk,aAQ,aAS,Sem.run_bind,aBd hu,aBd hf,Result.andThen_ok,mE,Sem.run_pure,Builtin.lenOf,lS,aBk,aBr,aAR,aBf,ku]
   rfl
 ·rename_i j m;simp only[aM,aBy]at h
  split at h
  ·rename_i hm;cases h;cases hx;obtain⟨j2,hf⟩:=hf
   have hn:IntKind.i64.wrap (Int.ofNat n)=n:=by
    show IntKind.i64.wrap (n:Int)=n;exact IntWalk.i64_in _ (by omega)
   have QF:∀w1:World,(zeroValue e).run P w1= .ok z' w1:=fun w1=>by simp[zeroValue,typeInfo,hi,hz]
   refine⟨(List.replicate n z'.cells.toList).flatten,true,(if n*size=0 then pure #[]else do pure (Builtin.zeroCells (<-zeroValue e).cells n)), ?_, ?_,fun w1 _=> ?_,fun base sLen sCap=> ?_⟩
   ·exact(vT ρ).flatten n
   ·simp[hsz]
   ·split
    ·rename_i h0
     have:(List.replicate n z'.cells.toList).flatten=[]:=by
      apply aBn.1;simp[hsz,h0]
     rw[this];rfl
    ·simp only[Sem.run_bind,QF,Result.andThen_ok,Sem.run_pure]
     congr 1
     apply Array.ext';rw[Builtin.zeroCells,aCz,aDt];exact oX z'.cells n
   ·have h1:¬((n:Int)<0):=by omega
    have h2:¬((n:Int)*i.bytes>2^48):=by
     have h3:n*i.bytes<=1099511627776*256:=aDC hm (hb rfl);have h4:((n*i.bytes:Nat):Int)<=((1099511627776*256:Nat):Int):=Int.ofNat_le.2 h3;rw[Int.natCast_mul]at h4;exact fun h5=>absurd (Int.lt_of_lt_of_le h5 h4) (by decide)
    simp only[Builtin.append_,aCk,aAQ,aAS,Sem.run_bind,aBd hu,aBd hf,Result.andThen_ok,mE,Sem.run_pure,asInt,asIntOf,hn,Sem.run_ite,typeInfo,run_program,hi,
     aAZ h1,aAZ h2,aDz,lS,aBr,aBm,aAR,aBf]
    rfl
  ·cases h
 ·cases h
end
