import Derived.Test.YtomffjeofpafnaaGreatDoorLimA
import Derived.Laws.BytesString
import Derived.IntWalk
namespace Lim
open Go
noncomputable section
section
variable {P:Program} {ρ:Ren} {st st':St} {w:World} {v:CV}
theorem VR.eH {b:Nat}{off len cap grow:Nat}{x':Value}(h:VR ρ (.slice b off len cap grow) x'):
 ∃r sz dp eX,x'= .slice (some ⟨r,dp,none⟩) len eX/\ρ b=some (r,sz)/\(0<cap->dp=off)/\cap<=eX/\(grow=0->eX=cap/\dp=off)/\
  (0<grow->dp+eX*grow<=sz/\len<=cap):=by
 cases h with
 |slice _ _ _ _ r sz h=>exact⟨r,sz,off,cap,rfl,h,fun _=>rfl,aAE _,fun _=>⟨rfl,rfl⟩,fun h=>absurd h (by omega)⟩
 |nk _ _ dp _ _ eX _ r sz h hg hl hc ho hs=>exact⟨r,sz,dp,eX,rfl,h,ho,hc,fun e=>by omega,fun _=>⟨hs,hl⟩⟩
def dG (size:Nat)(n:Nat)(x:CV)(st:St):Option (List CV):=
 match x with
 | .ae=>some []
 | .slice b off len _ grow=>bu (Nat.beq n 0) (some []) (bu (Bool.or (Nat.beq grow 0) (Nat.ble n len)) (match st.mem.get b with|some (.cells s _ _)=>ig s off (n*size)|some (.ro s _)=>ig s off (n*size)|_=>none) none)
 |_=>none
theorem lA {size n:Nat}{x:CV}{x':Value}{t:List CV}(h:dG size n x st=some t)(hn:∀e,x= .ae->e=n->e=0)(hw:WR ρ st w)(hx:VR ρ x x'):
 ∃vs,eu ρ t vs/\vs.length=n*size/\∀w1:World,w1.heap=w.heap->(Builtin.firstCells size n x').run P w1= .ok vs.toArray w1:=by
 unfold dG at h
 split at h
 ·cases h;cases hx;have:n=0:=hn n rfl rfl;subst this;exact⟨[],eu.nil ρ,by simp,fun w1 _=>by simp[Builtin.firstCells]⟩
 ·rename_i b off len cap grow;obtain⟨r,sz,dp,eX,rfl,hr,h1,h2,h3,h4⟩:=hx.eH;rw[aO]at h
  split at h
  ·rename_i h0;simp only[aBi]at h0;subst h0;cases h;exact⟨[],eu.nil ρ,by simp,fun w1 _=>by simp[Builtin.firstCells,loadCells,loadCellsFrom]⟩
  ·rename_i h0;simp only[aBi]at h0;rw[aO]at h
   split at h
   ·rename_i hg;simp only[aBB,aBi,aBe]at hg
    split at h
    ·rename_i s ty g hm;obtain⟨c,lo,hi,e1,e2,e3,e4,e5⟩:=hw.row hm hr;obtain⟨g1,g2⟩:=jw h
     have ho:dp=off:=by
      rcases hg with hg|hg
      ·exact(h3 hg).2
      ·by_cases hz:grow=0
       ·exact(h3 hz).2
       ·have:=(h4 (by omega)).2;exact h1 (by omega)
     subst ho;have g1':dp+n*size<=s.length:=g1;refine⟨(c.toList.drop dp).take (n*size), ?_,by simp;omega,fun w1 Nm=> ?_⟩
     ·rw[show t=(s.drop dp).take (n*size)from g2]
      have e:(c.toList.drop dp).take (n*size)=((c.toList.take s.length).drop dp).take (n*size):=by
       rw[aCq,aBN,aBq (by omega)]
      rw[e];exact(e4.drop dp).take _
     ·exact dU P w1 r dp (n*size) c ty (lo,hi) (by rw[Nm];exact e1) (by omega)
    ·rename_i s o0 hm;obtain⟨c,ty,lo,hi,e1,e2,e3,e4⟩:=hw.Mv hm hr;obtain⟨g1,g2⟩:=jw h
     have ho:dp=off:=by
      rcases hg with hg|hg
      ·exact(h3 hg).2
      ·by_cases hz:grow=0
       ·exact(h3 hz).2
       ·have:=(h4 (by omega)).2;exact h1 (by omega)
     subst ho;have g1':dp+n*size<=s.length:=g1;refine⟨(c.toList.drop dp).take (n*size), ?_,by simp;omega,fun w1 Nm=> ?_⟩
     ·rw[show t=(s.drop dp).take (n*size)from g2]
      have e:(c.toList.drop dp).take (n*size)=((c.toList.take s.length).drop dp).take (n*size):=by
       rw[aCq,aBN,aBq (by omega)]
      rw[e];exact(e4.drop dp).take _
     ·exact dU P w1 r dp (n*size) c ty (lo,hi) (by rw[Nm];exact e1) (by omega)
    ·cases h
   ·cases h
 ·cases h
inductive BC where
 |toInt (k:IntKind)
 |same
 |bytesOf (e:TypeId)
 |strOf
def dB (c:BC)(x:CV)(st:St):OR:=
 match c,x with
 | .toInt k, .int _ n=> .ok (.int k (k.wrap n)) st
 | .same, .str l=> .ok (.str l) st
 | .bytesOf e, .str l=> .ok (.slice st.next 0 l.length l.length 1) ⟨st.mem.put st.next (some (.cells (l.map bO) e true)),st.next+1⟩
 | .strOf, .ae=> .ok (.str []) st
 | .strOf, .slice b off len cap grow=>(match dG 1 len (.slice b off len cap grow) st with
   |some t=>(match Gh t with|some l=> .ok (.str l) st|none=> .bad)
   |_=> .bad)
 |_,_=> .bad
def FI (P:Program)(c:BC)(src dst:TypeId):Prop:=
 match c with
 | .toInt k=>P.underlying dst=some (.int k)/\∃d,P.underlying src=some d
 | .same=>P.underlying dst=some .string/\P.underlying src=some .string
 | .bytesOf e=>P.underlying dst=some (.slice e)/\P.underlying e=some (.int .u8)/\P.underlying src=some .string
 | .strOf=>∃e,P.underlying src=some (.slice e)/\P.underlying e=some (.int .u8)/\P.underlying dst=some .string
theorem HY (l:List Int):∀s:ByteArray,l.foldl (fun r n=>r.push (UInt8.ofNat n.toNat)) s=⟨s.data++(l.map fun n=>UInt8.ofNat n.toNat).toArray⟩:=by
 induction l with
 |nil=>intro s;simp
 |cons a l ih=>
  intro s;rw[List.foldl_cons,ih]
  congr 1
  apply Array.ext';simp[ByteArray.push]
theorem Ie {l:List UInt8}{vs:List Value}(h:eu ρ (l.map bO) vs):vs=(l.map fun x:UInt8=>(x.toNat:Int)).map (Value.int .u8):=by
 have:=(VR.Dm h).sH;simp only[Value.agg.injEq]at this;have:=congrArg Array.toList this;simp only[]at this;rw[this,aCX];rfl
theorem Eu {c:BC}{src dst:TypeId}{x:CV}{x':Value}(h:dB c x st= .ok v st')(hw:WR ρ st w)(hx:VR ρ x x')(hf:FI P c src dst):
 bF P (convert src dst x') ρ st w v st':=by
 unfold dB at h
 split at h
 ·obtain⟨h1,d,h2⟩:=hf;cases h;cases hx;refine bF.still hw ?_ (.int _ _);simp only[convert,Sem.run_bind,aAL h2,aAL h1,Result.andThen_ok];cases d<;>simp[Conv.intToInt]
 ·obtain⟨h1,h2⟩:=hf;cases h;cases hx;refine bF.still hw ?_ (.str _);simp[convert,aAL h2,aAL h1]
 ·rename_i e l;obtain⟨h1,h2,h3⟩:=hf;cases h;cases hx
  let cap:=(Question.appendCap l.length 0 e).cut (w.tape w.drawn (.appendCap l.length 0 e))
  have Ff:l.length<=cap:=by show l.length<=l.length+_;omega
  let o:Obj:= .cells (((fG l).data.map fun b=>Value.int .u8 b.toNat)++Array.replicate (cap-l.length) (.int .u8 0)) e (cap,cap+1)
  have mJ:((fG l).data.map fun b=>Value.int .u8 b.toNat).toList=(l.map fun x:UInt8=>Value.int .u8 (x.toNat:Int)):=by
   simp[fG]
  have hsz:(((fG l).data.map fun b=>Value.int .u8 b.toNat)++Array.replicate (cap-l.length) (Value.int .u8 0)).size=cap:=by
   have:(fG l).data.size=l.length:=j9 l;simp[this];omega
  have hb:∀ρ,BR ρ (.cells (l.map bO) e true) o cap:=fun ρ=>by
   have hs:(l.map bO).length=l.length:=by simp
   have:=BR.cells (ρ:=ρ) (l.map bO) e true (((fG l).data.map fun b=>Value.int .u8 b.toNat)++Array.replicate (cap-l.length) (.int .u8 0)) cap (cap+1) (by rw[hs,hsz];exact Ff)
    (by
     rw[Array.toList_append,mJ,hs];rw[aBW (by simp)];exact eu.bytes ρ l)
    (fun k hk=>by rw[hsz]at hk;omega) (fun h=>by cases h)
   rw[hsz]at this;exact this
  have ha:=bf.new (hw.CT (w':={w with drawn:=w.drawn+1}) rfl) (hb (ρ.set st.next (w.heap.size,cap)));have hd:=bf.draw hw (w.drawn+1);refine⟨.slice (some ⟨w.heap.size,0,none⟩) l.length cap,_,_, ?_, .nk _ _ 0 _ _ cap 1 _ _ ha.2 (by omega) (aAE _) Ff (fun _=>rfl) (by omega),hd.trans ha.1⟩;have hs:(fG l).size=l.length:=j9 l;simp only[convert,Sem.run_bind,aAL h3,aAL h1,aAL h2,Result.andThen_ok,Conv.stringToBytes,run_choose,hs];simp only[Question.forced,aAz,aAO,Result.andThen_ok,newRow,Sem.run_bind,run_newObj,Sem.run_pure]
  have Ns:({heap:=w.heap.push (.cells (((fG l).data.map fun b=>Value.int .u8 b.toNat)++Array.replicate (cap-l.length) (.int .u8 0)) e),tape:=w.tape,drawn:=w.drawn+1,os:=w.os,output:=w.output}:World).shape? w.heap.size=some (e,cap):=by
   simp only[World.shape?,Array.getElem?_push_size,hsz]
  simp only[markStringish,Sem.run_bind,run_shape,Result.andThen_ok];rw[show(Question.appendCap l.length 0 e).cut (w.tape w.drawn (Question.appendCap l.length 0 e))=cap from rfl,Ns];simp only[run_freeze,Result.andThen_ok]
  congr 1
  simp only[World.freeze,Nat.succ_ne_zero,aAO,World.mk.injEq,and_true];apply Array.ext
  ·simp
  ·intro k h1 h2;simp only[Array.getElem_modify,Array.getElem_push]
   by_cases hk:k=w.heap.size
   ·subst hk;simp[o]
   ·have:k<w.heap.size:=by simp at h2;omega
    simp[this,aBE hk]
 ·obtain⟨e,h1,h2,h3⟩:=hf;cases h;cases hx;refine bF.still hw ?_ (.str []);rw[run_convert_bytes_string w src dst e none 0 0 h1 h2 h3]
  rfl
 ·rename_i b off len cap grow;obtain⟨e,h1,h2,h3⟩:=hf;cases hs:dG 1 len (.slice b off len cap grow) st with
  |none=>rw[hs]at h;cases h
  |some t=>
   rw[hs]at h;obtain⟨vs,g1,g2,g3⟩:=lA (P:=P) hs (fun _ h _=>by cases h) hw hx;obtain⟨r,sz,dp,eX,rfl,hr,_⟩:=hx.eH;have Ot:=g3 w rfl;simp only[Builtin.firstCells,aCo]at Ot;dsimp only at h;cases hl:Gh t with
   |none=>rw[hl]at h;cases h
   |some l=>
    rw[hl]at h;cases h;have hv:=Ie (by rw[uE hl]at g1;exact g1);rw[hv]at Ot;refine bF.still hw ?_ (.str l);rw[run_convert_bytes_string w src dst e _ _ _ h1 h2 h3,run_bytesToString w _ _ _ _ Ot,HY]
    congr 2
    unfold fG
    congr 1
    apply Array.ext';simp[aCX,Function.comp_def]
 ·cases h
end
section
variable {P:Program} {ρ:Ren} {st st':St} {w:World} {v:CV}
def Dh (x:Option CV)(X1 y:Nat):Option Nat:=
 match x with
 |none=>some X1
 |some (.int _ (.ofNat n))=>bu (Nat.ble n y) (some n) none
 |_=>none
theorem jk {x:CV}{x':Value}{X1 y n:Nat}(h:Dh (some x) X1 y=some n)(hx:VR ρ x x'){Y:Nat}(hY:y<=Y)(code:BoundsCode):
 (Instr.sliceBound x' Y code).run P w= .ok n w/\n<=y:=by
 unfold Dh at h
 split at h
 ·rename_i e;cases e
 ·rename_i k m e;cases e;simp only[aO,aBe]at h
  split at h
  ·rename_i hle;cases h;cases hx;refine⟨?_,hle⟩;have h1:(0:Int)<=Int.ofNat n/\Int.ofNat n<=(Y:Int):=⟨aCP _,by show(n:Int)<=Y;omega⟩;simp only[Instr.sliceBound,asIntOf,Sem.run_bind,Sem.run_pure,Result.andThen_ok,Sem.run_ite,aAI h1]
   rfl
  ·cases h
 ·cases h
def Pn (ρ:Ren)(x:Option CV)(x':Option Value):Prop:=match x,x' with|none,none=>True|some x,some x'=>VR ρ x x'|_,_=>False
def mW (lo hi:Option CV)(len cap:Nat):Option (Nat×Nat):=
 match Dh hi len cap with
 |some h=>(match Dh lo 0 h with|some l=>some (l,h)|none=>none)
 |none=>none
theorem mO {isSlice:Bool}{lo hi:Option CV}{kF fv:Option Value}{len cap eX l h:Nat}(hb:mW lo hi len cap=some (l,h))(h1:Pn ρ lo kF)(h2:Pn ρ hi fv)(hc:cap<=eX)
 (hl:hi=none->len<=cap):(Instr.sliceBounds isSlice len eX kF fv none).run P w= .ok (l,h,eX) w/\l<=h/\h<=cap:=by
 unfold mW at hb;cases e1:Dh hi len cap with
 |none=>rw[e1]at hb;cases hb
 |some h0=>
  rw[e1]at hb;cases e2:Dh lo 0 h0 with
  |none=>dsimp only at hb;rw[e2]at hb;cases hb
  |some l0=>
   dsimp only at hb;rw[e2]at hb;cases hb
   have H:h<=cap:=by
    cases hi with
    |none=>cases e1;exact hl rfl
    |some x=>cases fv with
     |none=>exact h2.elim
     |some x'=>exact(jk (P:=P) (w:=w) e1 h2 (aAE _) .index).2
   have L:l<=h:=by
    cases lo with
    |none=>cases e2;omega
    |some x=>cases kF with
     |none=>exact h1.elim
     |some x'=>exact(jk (P:=P) (w:=w) e2 h1 (aAE _) .index).2
   refine⟨?_,L,H⟩;cases hi with
   |none=>
    cases fv with
    |some _=>exact h2.elim
    |none=>
     cases e1;cases lo with
     |none=>cases kF with
      |some _=>exact h1.elim
      |none=>cases e2;simp[Instr.sliceBounds]
     |some x=>cases kF with
      |none=>exact h1.elim
      |some x'=>simp[Instr.sliceBounds,(jk (P:=P) (w:=w) e2 h1 (aAE _) .sliceB).1]
   |some y=>
    cases fv with
    |none=>exact h2.elim
    |some y'=>
     have E1:∀code,(Instr.sliceBound y' eX code).run P w= .ok h w:=fun code=>(jk (P:=P) (w:=w) e1 h2 hc code).1;cases lo with
     |none=>cases kF with
      |some _=>exact h1.elim
      |none=>cases e2;cases isSlice<;>simp[Instr.sliceBounds,E1]
     |some x=>cases kF with
      |none=>exact h1.elim
      |some x'=>cases isSlice<;>simp[Instr.sliceBounds,E1,(jk (P:=P) (w:=w) e2 h1 (aAE _) .sliceB).1]
def ki (x:CV)(lo hi:Option CV)(st:St):OR:=
 match x with
 | .str s=>(match mW lo hi s.length s.length with|some (l,h)=> .ok (.str ((s.drop l).take (h-l))) st|none=> .bad)
 |_=> .bad
theorem uG (s:List UInt8)(l h:Nat):(fG s).extract l h=fG ((s.drop l).take (h-l)):=by
 unfold fG;apply ByteArray.ext;rw[ByteArray.data_extract];apply Array.ext';simp only[Array.toList_extract,List.extract_eq_take_drop]
theorem xj {t:TypeId}{x:CV}{x':Value}{lo hi:Option CV}{kF fv:Option Value}(h:ki x lo hi st= .ok v st')(hw:WR ρ st w)(hx:VR ρ x x')(h1:Pn ρ lo kF)(h2:Pn ρ hi fv)
 (hu:P.underlying t=some .string):bF P (Instr.sliceAt t x' kF fv none) ρ st w v st':=by
 unfold ki at h
 split at h
 ·rename_i s
  split at h
  ·rename_i l k hb;cases h;cases hx;obtain⟨b1,b2,b3⟩:=mO (P:=P) (w:=w) (isSlice:=false) hb h1 h2 (aAE _) (fun _=>aAE _);refine bF.still hw (v':= .string ((fG s).extract l k)) ?_ (by rw[uG];exact .str _);have e:(fG s).size=s.length:=j9 s;simp[Instr.sliceAt,aAL hu,Instr.slice,e,b1]
  ·cases h
 ·cases h
def aL (size:Nat)(x:CV)(lo hi:Option CV)(st:St):OR:=
 match x with
 | .ae=>(match mW lo hi 0 0 with|some _=> .ok .ae st|none=> .bad)
 | .slice b off len cap grow=>bu (Nat.ble len cap) (match mW lo hi len cap with
   |some (l,h)=>nL (Nat.sub h l) fun n=>nL (Nat.sub cap l) fun c=>
    bu (Bool.and (Nat.beq grow 0) (Nat.beq l cap)) (.ok (.slice b off n c grow) st) (nL (Nat.add off (Nat.mul l size)) fun o=>bu (Bool.or (Nat.beq grow 0) (Nat.beq grow size)) (.ok (.slice b o n c grow) st) .bad)
   |none=> .bad) .bad
 |_=> .bad
theorem yp {t e:TypeId}{size:Nat}{x:CV}{x':Value}{lo hi:Option CV}{kF fv:Option Value}(h:aL size x lo hi st= .ok v st')(hw:WR ρ st w)(hx:VR ρ x x')(h1:Pn ρ lo kF)(h2:Pn ρ hi fv)
 (hu:P.underlying t=some (.slice e)) (hs:(Go.sizeOf e).run P w= .ok size w):bF P (Instr.sliceAt t x' kF fv none) ρ st w v st':=by
 unfold aL at h
 split at h
 ·split at h
  ·rename_i lh hb;obtain⟨l,k⟩:=lh;cases h;cases hx;obtain⟨b1,b2,b3⟩:=mO (P:=P) (w:=w) (isSlice:=true) hb h1 h2 (aAE _) (fun _=>aAE _);have hk:k=0:=by omega
   have hl:l=0:=by omega
   subst hk;subst hl;refine bF.still hw ?_ .ae;simp[Instr.sliceAt,aAL hu,Instr.slice,b1,hs]
  ·cases h
 ·rename_i b off len cap grow;rw[aO]at h
  split at h
  rotate_left
  ·cases h
  rename_i WO;rw[aBe]at WO
  split at h
  ·rename_i l k hb;rw[dE,dE]at h;obtain⟨r,sz,dp,eX,rfl,hr,c1,c2,c3,c4⟩:=hx.eH;obtain⟨b1,b2,b3⟩:=mO (P:=P) (w:=w) (isSlice:=true) hb h1 h2 c2 (fun _=>WO)
   have jx:(Instr.sliceAt t (.slice (some ⟨r,dp,none⟩) len eX) kF fv none).run P w=
    .ok (.slice (if eX=l then some ⟨r,dp,none⟩else some ⟨r,dp+l*size,none⟩) (k-l) (eX-l)) w:=by
    simp[Instr.sliceAt,aAL hu,Instr.slice,b1,hs,jT]
   simp only[aO,aAV,aBB,aBi,dE]at h
   split at h
   ·rename_i hg;obtain⟨hg,hl⟩:=hg;cases h;obtain⟨e1,e2⟩:=c3 hg;subst hg;subst e1;subst e2;subst hl;refine bF.still hw jx ?_;rw[aAI rfl];exact .slice _ _ _ _ r sz hr
   ·rename_i hng
    split at h
    ·rename_i hg
     ·cases h
      by_cases hz:grow=0
      ·obtain⟨e1,e2⟩:=c3 hz;subst hz;subst e1;subst e2;refine bF.still hw jx ?_;rw[aAH (fun e=>hng ⟨rfl,e.symm⟩)];exact .slice _ _ _ _ r sz hr
      ·have hgs:grow=size:=by rcases hg with hg|hg;exact absurd hg hz;exact hg
       obtain⟨d1,d2⟩:=c4 (by omega);refine bF.still hw jx ?_
       have key:∀o',o'+(eX-l)*grow<=sz->(0<cap-l->o'=off+l*size)->
        VR ρ (.slice b (off+l*size) (k-l) (cap-l) grow) (.slice (some ⟨r,o',none⟩) (k-l) (eX-l)):=fun o' ho1 ho2=>
        .nk _ _ o' _ _ (eX-l) grow r sz hr (by omega) (by omega) (by omega) ho2 ho1
       split
       ·rename_i qx;exact key dp (by rw[qx,Nat.sub_self,aDq];omega) (by omega)
       ·refine key (dp+l*size) ?_ (fun hp=>by rw[c1 (by omega)])
        have:l*size+(eX-l)*grow=eX*grow:=by
         rw[hgs,<-aBI];congr 1;omega
        omega
    ·cases h
  ·cases h
 ·cases h
def iv (size:Nat)(x:CV)(lo:Option CV)(hi mx:CV)(st:St):OR:=
 match x with
 | .slice b off len cap grow=>(match Dh (some mx) 0 cap with
   |some m=>(match mW lo (some hi) len m with
    |some (l,h)=>bu (Bool.or (Nat.beq grow 0) (Nat.ble (Nat.succ l) cap)) (nL (Nat.sub h l) fun n=>nL (Nat.sub m l) fun c=>bu (Nat.beq m l) (.ok (.slice b off n c 0) st) (nL (Nat.add off (Nat.mul l size)) fun o=> .ok (.slice b o n c 0) st)) .bad
    |none=> .bad)
   |none=> .bad)
 | .ae=>(match Dh (some mx) 0 0 with
   |some m=>(match mW lo (some hi) 0 m with|some _=> .ok .ae st|none=> .bad)
   |none=> .bad)
 |_=> .bad
theorem Ab {t e:TypeId}{size:Nat}{x:CV}{x':Value}{lo:Option CV}{kF:Option Value}{hi mx:CV}{fv YA:Value}(h:iv size x lo hi mx st= .ok v st')(hw:WR ρ st w)(hx:VR ρ x x')(h1:Pn ρ lo kF)(h2:VR ρ hi fv)(h3:VR ρ mx YA)
 (hu:P.underlying t=some (.slice e)) (hs:(Go.sizeOf e).run P w= .ok size w):bF P (Instr.sliceAt t x' kF (some fv) (some YA)) ρ st w v st':=by
 unfold iv at h
 split at h
 ·rename_i b off len cap grow
  split at h
  ·rename_i m hm
   split at h
   ·rename_i l k hb;obtain⟨r,sz,dp,eX,rfl,hr,c1,c2,c3,c4⟩:=hx.eH;obtain⟨m1,m2⟩:=jk (P:=P) (w:=w) hm h3 c2 .slice3Acap;unfold mW at hb;cases e1:Dh (some hi) len m with
    |none=>rw[e1]at hb;cases hb
    |some h0=>
     rw[e1]at hb;cases e2:Dh lo 0 h0 with
     |none=>dsimp only at hb;rw[e2]at hb;cases hb
     |some l0=>
      dsimp only at hb;rw[e2]at hb;cases hb;obtain⟨k1,k2⟩:=jk (P:=P) (w:=w) e1 h2 (aAE _) .slice3B
      have hl:l<=k/\(Instr.sliceBounds true len eX kF (some fv) (some YA)).run P w= .ok (l,k,m) w:=by
       cases lo with
       |none=>cases kF with
        |some _=>exact h1.elim
        |none=>cases e2;exact⟨by omega,by simp[Instr.sliceBounds,m1,k1]⟩
       |some y=>cases kF with
        |none=>exact h1.elim
        |some y'=>
         obtain⟨l1,l2⟩:=jk (P:=P) (w:=w) e2 h1 (aAE _) .slice3C;exact⟨l2,by simp[Instr.sliceBounds,m1,k1,l1]⟩
      have jx:(Instr.sliceAt t (.slice (some ⟨r,dp,none⟩) len eX) kF (some fv) (some YA)).run P w=
       .ok (.slice (if m=l then some ⟨r,dp,none⟩else some ⟨r,dp+l*size,none⟩) (k-l) (m-l)) w:=by
       simp[Instr.sliceAt,aAL hu,Instr.slice,hl.2,hs,jT]
      simp only[aO,aBB,aBi,aBe,dE]at h
      split at h
      ·rename_i hg
       have ho:dp=off:=by
        rcases hg with hg|hg
        ·exact(c3 hg).2
        ·exact c1 (by omega)
       subst ho
       split at h
       ·rename_i PE;cases h;refine bF.still hw jx ?_;rw[aAI PE];exact .slice _ _ _ _ r sz hr
       ·rename_i PE;cases h;refine bF.still hw jx ?_;rw[aAH PE];exact .slice _ _ _ _ r sz hr
      ·cases h
   ·cases h
  ·cases h
 ·split at h
  ·rename_i m hm
   split at h
   ·rename_i lh hb;obtain⟨l,k⟩:=lh;cases h;cases hx;obtain⟨m1,m2⟩:=jk (P:=P) (w:=w) hm h3 (aAE 0) .slice3Acap;have Kw:m=0:=by omega
    subst Kw;unfold mW at hb;cases e1:Dh (some hi) 0 0 with
    |none=>rw[e1]at hb;cases hb
    |some h0=>
     rw[e1]at hb;cases e2:Dh lo 0 h0 with
     |none=>dsimp only at hb;rw[e2]at hb;cases hb
     |some l0=>
      dsimp only at hb;rw[e2]at hb;cases hb;obtain⟨k1,k2⟩:=jk (P:=P) (w:=w) e1 h2 (aAE _) .slice3B;have LH:k=0:=by omega
      subst LH
      have hl:l<=0/\(Instr.sliceBounds true 0 0 kF (some fv) (some YA)).run P w= .ok (l,0,0) w:=by
       cases lo with
       |none=>cases kF with
        |some _=>exact h1.elim
        |none=>cases e2;exact⟨by omega,by simp[Instr.sliceBounds,m1,k1]⟩
       |some y=>cases kF with
        |none=>exact h1.elim
        |some y'=>
         obtain⟨l1,l2⟩:=jk (P:=P) (w:=w) e2 h1 (aAE _) .slice3C;exact⟨l2,by simp[Instr.sliceBounds,m1,k1,l1]⟩
      have hl0:l=0:=by omega
      subst hl0;refine bF.still hw ?_ .ae;simp[Instr.sliceAt,aAL hu,Instr.slice,hl.2,hs]
   ·cases h
  ·cases h
 ·cases h
def bR (n size:Nat)(x:CV)(lo hi:Option CV)(st:St):OR:=
 match x with
 | .ptr b off=>(match mW lo hi n n with
   |some (l,h)=>nL (Nat.sub h l) fun k=>nL (Nat.sub n l) fun c=>bu (Nat.beq n l) (.ok (.slice b off k c 0) st) (nL (Nat.add off (Nat.mul l size)) fun o=> .ok (.slice b o k c 0) st)
   |none=> .bad)
 |_=> .bad
theorem xl {t e:TypeId}{n size:Nat}{x:CV}{x':Value}{lo hi:Option CV}{kF fv:Option Value}(h:bR n size x lo hi st= .ok v st')(hw:WR ρ st w)(hx:VR ρ x x')(h1:Pn ρ lo kF)(h2:Pn ρ hi fv)
 (hu:P.underlying t=some (.array n e)) (hs:(Go.sizeOf e).run P w= .ok size w):bF P (Instr.sliceAt t x' kF fv none) ρ st w v st':=by
 unfold bR at h
 split at h
 ·rename_i b off
  split at h
  ·rename_i l k hb;cases hx with
   |ptr _ _ r sz hr=>
    obtain⟨b1,b2,b3⟩:=mO (P:=P) (w:=w) (isSlice:=false) hb h1 h2 (aAE _) (fun _=>aAE _)
    have jx:(Instr.sliceAt t (.pointer (some ⟨r,off,none⟩)) kF fv none).run P w=
     .ok (.slice (some (if n=l then ⟨r,off,none⟩else ⟨r,off+l*size,none⟩)) (k-l) (n-l)) w:=by
     simp[Instr.sliceAt,aAL hu,Instr.sureAddr,b1,hs,jT]
    simp only[aO,aBi,dE]at h
    split at h
    ·rename_i ES;cases h;refine bF.still hw jx ?_;rw[aAI ES];exact .slice _ _ _ _ r sz hr
    ·rename_i ES;cases h;refine bF.still hw jx ?_;rw[aAH ES];exact .slice _ _ _ _ r sz hr
  ·cases h
 ·cases h
def nZ (n:Nat)(x:CV)(st:St):OR:=
 match x with| .slice b off len cap grow=>bu (Bool.and (Nat.ble n len) (Bool.or (Nat.beq grow 0) (Bool.and (Nat.ble 1 cap) (Nat.ble len cap)))) (.ok (.ptr b off) st) .bad|_=> .bad
theorem En {t e:TypeId}{n:Nat}{x:CV}{x':Value}(h:nZ n x st= .ok v st')(hw:WR ρ st w)(hx:VR ρ x x')(hu:P.underlying t=some (.array n e)):bF P (Instr.arrayAt t x') ρ st w v st':=by
 unfold nZ at h
 split at h
 ·rename_i b off len cap grow;simp only[aO,aAV,aBB,aBi,aBe]at h
  split at h
  ·rename_i hg;cases h;obtain⟨r,sz,dp,eX,rfl,hr,c1,c2,c3,c4⟩:=hx.eH
   have ho:dp=off:=by
    rcases hg.2 with hg|hg
    ·exact(c3 hg).2
    ·exact c1 (by omega)
   subst ho;refine bF.still hw ?_ (.ptr _ _ r sz hr);have:¬len<n:=by omega
   simp[Instr.arrayAt,aAL hu,this]
  ·cases h
 ·cases h
def an (off:Nat)(x:CV)(st:St):OR:=match x with| .ptr b o=>nL (Nat.add o off) fun o=> .ok (.ptr b o) st|_=> .bad
theorem vS {t:TypeId}{i:Nat}{fs:Array Field}{f:Field}{off n:Nat}{x:CV}{x':Value}(h:an off x st= .ok v st')(hw:WR ρ st w)(hx:VR ρ x x')(hu:P.underlying t=some (.struct fs))
 (hf:fs[i]?=some f) (ho:f.offset=off) (hs:(Go.sizeOf f.type).run P w= .ok n w) (hn:n≠0):bF P (Instr.fieldAt t x' i) ρ st w v st':=by
 unfold an at h
 split at h
 ·rename_i b o;rw[dE]at h;cases h;cases hx with
  |ptr _ _ r sz hr=>
   refine bF.still hw ?_ (.ptr _ _ r sz hr);simp[Instr.fieldAt,aAL hu,hf,Instr.sureAddr,fieldPlace,hs,hn,jT,ho]
 ·cases h
def yu (agg:Bool)(off size:Nat)(x:CV)(st:St):OR:=match x with| .agg s=>Option.rec .bad (fun v=> .ok v st) (iR agg off size s)|_=> .bad
theorem Cm {t:TypeId}{i:Nat}{fs:Array Field}{f:Field}{ti:TypeInfo}{u:TypeDesc}{x:CV}{x':Value}(h:yu (ib u) f.offset ti.size x st= .ok v st')(hw:WR ρ st w)(hx:VR ρ x x')(hu:P.underlying t=some (.struct fs))
 (hf:fs[i]?=some f) (hi:P.info? f.type=some ti) (hut:P.underlying f.type=some u):bF P (Instr.field t x' i) ρ st w v st':=by
 unfold yu at h
 split at h
 ·rename_i s;cases hc:iR (ib u) f.offset ti.size s with
  |none=>rw[hc]at h;cases h
  |some y=>
   rw[hc]at h;cases h;cases hx with
   |agg _ l hl hh=>
    obtain⟨y',p1,p2⟩:=iq (P:=P) (w:=w) hc ⟨hl,hh⟩ hi rfl hut rfl;refine bF.still hw ?_ p2;simp[Instr.field,aAL hu,hf,asAgg,p1]
 ·cases h
def fI (n size:Nat)(x i:CV)(st:St):OR:=
 match x,i with| .ptr b o, .int _ (.ofNat j)=>bu (Nat.ble (Nat.succ j) n) (nL (Nat.add o (Nat.mul j size)) fun o=> .ok (.ptr b o) st) .bad|_,_=> .bad
def cQ (size:Nat)(x i:CV)(st:St):OR:=
 match x,i with| .slice b o len cap grow, .int _ (.ofNat j)=>bu (Bool.and (Nat.ble (Nat.succ j) len) (Bool.or (Nat.beq grow 0) (Nat.ble len cap))) (nL (Nat.add o (Nat.mul j size)) fun o=> .ok (.ptr b o) st) .bad|_,_=> .bad
theorem Ae {t e:TypeId}{n size:Nat}{x i:CV}{x' i':Value}(h:fI n size x i st= .ok v st')(hw:WR ρ st w)(hx:VR ρ x x')(hi:VR ρ i i')(hu:P.underlying t=some (.array n e))
 (hs:(Go.sizeOf e).run P w= .ok size w):bF P (Instr.indexAt t x' i') ρ st w v st':=by
 unfold fI at h
 split at h
 ·rename_i b o k j;simp only[aO,aBe,dE]at h
  split at h
  ·rename_i hj;cases h;cases hi;cases hx with
   |ptr _ _ r sz hr=>
    refine bF.still hw ?_ (.ptr _ _ r sz hr);have h1:(0:Int)<=Int.ofNat j/\Int.ofNat j<(n:Int):=⟨aCP _,by show(j:Int)<n;omega⟩;simp only[Instr.indexAt,asIntOf,Sem.run_bind,Sem.run_pure,Result.andThen_ok,aAL hu,Instr.sureAddr,Sem.run_ite,aAI h1,hs,jT]
    rfl
  ·cases h
 ·cases h
theorem Cl {t e:TypeId}{size:Nat}{x i:CV}{x' i':Value}(h:cQ size x i st= .ok v st')(hw:WR ρ st w)(hx:VR ρ x x')(hi:VR ρ i i')(hu:P.underlying t=some (.slice e))
 (hs:(Go.sizeOf e).run P w= .ok size w):bF P (Instr.indexAt t x' i') ρ st w v st':=by
 unfold cQ at h
 split at h
 ·rename_i b o len cap grow k j;simp only[aO,aAV,aBB,aBi,aBe,dE]at h
  split at h
  ·rename_i hj;cases h;cases hi;obtain⟨r,sz,dp,eX,rfl,hr,c1,c2,c3,c4⟩:=hx.eH
   have ho:dp=o:=by
    rcases hj.2 with hg|hg
    ·exact(c3 hg).2
    ·exact c1 (by omega)
   subst ho;refine bF.still hw ?_ (.ptr _ _ r sz hr);have h1:(0:Int)<=Int.ofNat j/\Int.ofNat j<(len:Int):=⟨aCP _,by show(j:Int)<len;omega⟩;simp only[Instr.indexAt,asIntOf,Sem.run_bind,Sem.run_pure,Result.andThen_ok,aAL hu,Sem.run_ite,aAI h1,hs,jT]
   rfl
  ·cases h
 ·cases h
def oe (x i:CV)(st:St):OR:=
 match x,i with| .str l, .int _ (.ofNat j)=>(match l[j]? with|some b=> .ok (bO b) st|none=> .bad)|_,_=> .bad
theorem Ad {t:TypeId}{x i:CV}{x' i':Value}(h:oe x i st= .ok v st')(hw:WR ρ st w)(hx:VR ρ x x')(hi:VR ρ i i')(hu:P.underlying t=some .string):bF P (Instr.index t x' i') ρ st w v st':=by
 unfold oe at h
 split at h
 ·rename_i l k j
  split at h
  ·rename_i b hj;cases h;cases hi;cases hx;refine bF.still hw ?_ (.int _ _);have h1:(0:Int)<=Int.ofNat j:=aCP _;have hlt:j<l.length:=(aAP.1 hj).1
   have we:(fG l)[(Int.ofNat j).toNat]?=some b:=by
    show(fG l)[j]?=_;rw[getElem?_pos (fG l) j (by rw[j9];exact hlt)];rw[<-hj,aAC hlt];rfl
   simp only[Instr.index,asIntOf,Sem.run_bind,Sem.run_pure,Result.andThen_ok,aAL hu,aAI h1,we]
  ·cases h
 ·cases h
def uQ (n size:Nat)(agg:Bool)(x i:CV)(st:St):OR:=
 match x,i with| .agg s, .int _ (.ofNat j)=>bu (Nat.ble (Nat.succ j) n) (Option.rec .bad (fun v=> .ok v st) (iR agg (Nat.mul j size) size s)) .bad|_,_=> .bad
theorem Af {t e:TypeId}{n:Nat}{ti:TypeInfo}{u:TypeDesc}{x i:CV}{x' i':Value}(h:uQ n ti.size (ib u) x i st= .ok v st')(hw:WR ρ st w)(hx:VR ρ x x')(hi:VR ρ i i')(hu:P.underlying t=some (.array n e))
 (he:P.info? e=some ti) (LB:P.underlying e=some u):bF P (Instr.index t x' i') ρ st w v st':=by
 unfold uQ at h
 split at h
 ·rename_i s k j;simp only[aO,aBe]at h
  split at h
  ·rename_i hj;cases hc:iR (ib u) (Nat.mul j ti.size) ti.size s with
   |none=>rw[hc]at h;cases h
   |some y=>
    rw[hc]at h;cases h;cases hi;cases hx with
    |agg _ l hl hh=>
     obtain⟨y',p1,p2⟩:=iq (P:=P) (w:=w) hc ⟨hl,hh⟩ he rfl LB rfl;refine bF.still hw ?_ p2;have h1:(0:Int)<=Int.ofNat j/\Int.ofNat j<(n:Int):=⟨aCP _,by show(j:Int)<n;omega⟩;have h2:(Go.sizeOf e).run P w= .ok ti.size w:=by simp[Go.sizeOf,typeInfo,he]
     simp only[Instr.index,asIntOf,Sem.run_bind,Sem.run_pure,Result.andThen_ok,aAL hu,Sem.run_ite,aAI h1,h2];exact p1
  ·cases h
 ·cases h
def tT (t:TypeId)(x:CV)(st:St):OR:= .ok (.iface t x) st
theorem Ck {t:TypeId}{x:CV}{x':Value}(h:tT t x st= .ok v st')(hw:WR ρ st w)(hx:VR ρ x x')(hc:P.concrete t=true):bF P (Instr.makeInterface t x') ρ st w v st':=by
 cases h;exact bF.still hw (run_makeInterface w t x' hc) (.iface t x x' hx)
end
def cH (c:Nat)(z:List CV):List CV:=(List.replicate c z).flatten
theorem oP (z:Array Value):∀c,((List.range (c*z.size)).map fun i=>z[i%z.size]!)=(List.replicate c z.toList).flatten:=by
 intro c
 induction c with
 |zero=>simp
 |succ c ih=>
  rw[aCI,aBU,<-ih,Nat.succ_mul,aDr,List.range_add,aBP,aCX]
  congr 1
  ·apply List.ext_getElem
   ·simp
   ·intro i h1 h2;simp only[aBJ,List.length_range]at h1;simp[aCw h1,h1]
  ·apply List.map_congr_left;intro i _;simp
section
variable {P:Program} {ρ:Ren} {st st':St} {w:World} {v:CV}
theorem eu.flatten {l:List CV}{l':List Value}(h:eu ρ l l')(c:Nat):eu ρ (List.replicate c l).flatten (List.replicate c l').flatten:=by
 induction c with
 |zero=>exact eu.nil ρ
 |succ c ih=>rw[aCI,aCI,aBU,aBU];exact h.app ih
inductive Ln where
 |str|slice|map|cap
 |const (n:Nat)
def bh (k:Ln)(x:CV)(st:St):OR:=
 match k,x with
 | .const n,_=>xC .i64 st n
 | .str, .str l=>xC .i64 st l.length
 | .slice, .ae=>xC .i64 st 0
 | .slice, .slice _ _ len _ _=>xC .i64 st len
 | .map, .fM=>xC .i64 st 0
 | .map, .map b=>(match st.mem.get b with|some (.map es _)=>nL es.length (xC .i64 st)|some (.lmap es)=>nL es.length (xC .i64 st)|_=> .bad)
 | .cap, .ae=>xC .i64 st 0
 | .cap, .slice _ _ _ cap grow=>bu (Nat.beq grow 0) (xC .i64 st cap) (.ok (.gN cap) st)
 |_,_=> .bad
def IU (P:Program)(k:Ln)(t:TypeId):Prop:=
 match k with
 | .str=>P.underlying t=some .string
 | .slice=>∃e,P.underlying t=some (.slice e)
 | .map=>∃k e,P.underlying t=some (.map k e)
 | .cap=>False
 | .const n=>(∃e,P.underlying t=some (.array n e))\/∃a e,P.underlying t=some (.pointer a)/\P.underlying a=some (.array n e)
theorem WR.map {b:Nat}{es:List (CV×CV×Nat)}{clock r sz:Nat}(h:WR ρ st w)(h1:st.mem.get b=some (.map es clock))(h2:ρ b=some (r,sz)):
 ∃es':List MapEntry,w.heap[r]?=some (.map es'.toArray clock)/\es.length=es'.length/\
  ∀(i:Nat) (e:CV×CV×Nat) (e':MapEntry),es[i]?=some e->es'[i]?=some e'->VR ρ e.1 e'.key/\VR ρ e.2.1 e'.val/\e.2.2=e'.born:=by
 obtain⟨o,e2,e3⟩:=h.at' b _ r sz h1 h2;cases e3 with
 |map _ _ es' hl h=>exact⟨es',e2,hl,h⟩
theorem WR.lmap {b:Nat}{es:List (CV×CV×Nat)}{r sz:Nat}(h:WR ρ st w)(h1:st.mem.get b=some (.lmap es))(h2:ρ b=some (r,sz)):
 ∃(l:List (CV×CV×Nat)) (clock:Nat) (es':List MapEntry),w.heap[r]?=some (.map es'.toArray clock)/\l.Perm es/\(∀e∈es,∃n:Int,e.1= .int .i64 n)/\(es.map (·.1)).Nodup/\Go.MapKept.Stamped es'.toArray clock/\l.length=es'.length/\
  ∀(i:Nat) (e:CV×CV×Nat) (e':MapEntry),l[i]?=some e->es'[i]?=some e'->VR ρ e.1 e'.key/\VR ρ e.2.1 e'.val:=by
 obtain⟨o,e2,e3⟩:=h.at' b _ r sz h1 h2;cases e3 with
 |lmap _ l clock es' hp hi hn hs hl h=>exact⟨l,clock,es',e2,hp,hi,hn,hs,hl,h⟩
theorem dz {r clock:Nat}{es:Array MapEntry}(h:w.heap[r]?=some (.map es clock)):(getObj r).run P w= .ok (.map es clock) w:=by
 simp only[getObj,Sem.run,h]
theorem Hn {k:Ln}{t ty:TypeId}{x:CV}{x':Value}(h:bh k x st= .ok v st')(hw:WR ρ st w)(hx:VR ρ x x')(hf:IU P k t)(ats:Array TypeId)(pz:ats[0]?=some t):
 bF P (Builtin.len_ ats ty #[x']) ρ st w v st':=by
 unfold bh at h
 split at h
 ·cases h;refine bF.still hw ?_ (.int _ _);rcases hf with⟨e,hf⟩|⟨a,e,hf,Xi⟩
  ·simp only[Builtin.len_,pz,aBQ,aAy,Sem.run_bind,aAL hf,Result.andThen_ok]
   rfl
  ·simp only[Builtin.len_,pz,aBQ,aAy,Sem.run_bind,aAL hf,aAL Xi,Result.andThen_ok]
   rfl
 ·cases h;cases hx;refine bF.still hw ?_ (.int _ _);have hf':P.underlying t=some .string:=hf;simp[Builtin.len_,pz,aAL hf',goInt]
 ·cases h;cases hx;obtain⟨e,hf⟩:=hf;refine bF.still hw ?_ (.int _ _);simp[Builtin.len_,pz,aAL hf,goInt]
 ·cases h;obtain⟨e,hf⟩:=hf;obtain⟨r,sz,dp,eX,rfl,_⟩:=hx.eH;refine bF.still hw ?_ (.int _ _);simp[Builtin.len_,pz,aAL hf,goInt]
 ·cases h;cases hx;obtain⟨e,e2,hf⟩:=hf;refine bF.still hw ?_ (.int _ _);simp[Builtin.len_,pz,aAL hf,goInt]
 ·rename_i b;obtain⟨e,e2,hf⟩:=hf
  split at h
  ·rename_i es clock hm;rw[dE]at h;cases h;cases hx with
   |map _ r sz hr=>
    obtain⟨es',h1,h2,h3⟩:=hw.map hm hr;refine bF.still hw ?_ (.int _ _);simp[Builtin.len_,pz,aAL hf,goInt,dz h1,h2]
  ·rename_i es hm;rw[dE]at h;cases h;cases hx with
   |map _ r sz hr=>
    obtain⟨l,clock,es',h1,h2,_,_,_,h3,_⟩:=hw.lmap hm hr;refine bF.still hw ?_ (.int _ _);simp[Builtin.len_,pz,aAL hf,goInt,dz h1,<-h3,h2.length_eq]
  ·cases h
 ·exact hf.elim
 ·exact hf.elim
 ·cases h
theorem Hp {t ty:TypeId}{x:CV}{x':Value}(h:bh .cap x st= .ok v st')(hw:WR ρ st w)(hx:VR ρ x x'){e:TypeId}(hf:P.underlying t=some (.slice e))(ats:Array TypeId)(pz:ats[0]?=some t):
 bF P (Builtin.cap_ ats ty #[x']) ρ st w v st':=by
 have e:bh .cap x st=(match (generalizing:=false) x with| .ae=>xC .i64 st 0| .slice _ _ _ cap grow=>bu (Nat.beq grow 0) (xC .i64 st cap) (.ok (.gN cap) st)|_=> .bad):=by cases x<;>rfl
 rw[e]at h
 split at h
 ·cases h;cases hx;refine bF.still hw ?_ (.int _ _);simp[Builtin.cap_,pz,aAL hf,goInt]
 ·rename_i b off len cap grow;obtain⟨r,sz,dp,eX,rfl,hr,c1,c2,c3,c4⟩:=hx.eH;simp only[aO,aBi]at h
  split at h
  ·rename_i hg;cases h;obtain⟨g1,_⟩:=c3 hg;subst g1;refine bF.still hw ?_ (.int _ _);simp[Builtin.cap_,pz,aAL hf,goInt]
  ·cases h;refine bF.still hw (v':= .int .i64 (eX:Int)) ?_ (.gN _ _ (by exact_mod_cast c2));simp[Builtin.cap_,pz,aAL hf,goInt]
 ·cases h
def qm (e bytes:Nat)(z:List CV)(l c:CV)(st:St):OR:=
 match l,c with
 | .int _ (.ofNat l), .int _ (.ofNat c)=>
   bu (Bool.and (Nat.ble l c) (Bool.and (Nat.ble (Nat.mul bytes c) 281474976710656) (Nat.ble c 9223372036854775807)))
    (.ok (.slice st.next 0 l c 0) ⟨st.mem.put st.next (some (.cells (cH c z) e false)),st.next+1⟩) .bad
 |_,_=> .bad
theorem Ep {t e bytes:TypeId}{i:TypeInfo}{z:List CV}{z':Value}{l c:CV}{l' c':Value}(h:qm e bytes z l c st= .ok v st')(hw:WR ρ st w)(hl:VR ρ l l')(hc:VR ρ c c')
 (hu:P.underlying t=some (.slice e)) (hi:P.info? e=some i) (hz:i.zero=some z') (hb:i.bytes=bytes) (hsz:z'.cells.size=i.size) (vJ:∀ρ,eu ρ z z'.cells.toList):
 bF P (Instr.makeSlice t l' c') ρ st w v st':=by
 unfold qm at h
 split at h
 ·rename_i k1 l k2 c;simp only[aO,aAV,aBe]at h
  split at h
  ·rename_i hg;cases h;cases hl;cases hc;obtain⟨g1,g2,g3⟩:=hg
   have jx:=run_make w t e i z' hu hi hz k1 k2 (l:Int) (c:Int) (aCP _) (Int.ofNat_le.2 g1) (by
    rw[hb];have:bytes*c<=281474976710656:=g2;have h4:((bytes*c:Nat):Int)<=281474976710656:=Int.ofNat_le.2 this
    rwa [Int.natCast_mul]at h4) (Int.ofNat_le.2 g3)
   have Xr:(madeCells z'.cells (c*i.size)).toList=(List.replicate c z'.cells.toList).flatten:=by
    rw[<-hsz,madeCells,aCj,aDe];exact oP z'.cells c
   obtain⟨ρ',h1,h2,h3⟩:=bf.newRow (P:=P) (t:=e) (s:=cH c z) (l:=(madeCells z'.cells (c*i.size)).toList) hw (fun ρ' _=>by
    rw[Xr];exact(vJ ρ').flatten c) false
   refine⟨_,_,ρ',jx, ?_, ?_⟩
   ·have:=VR.slice (ρ:=ρ') st.next 0 l c w.heap.size _ h2
    simpa using this
   ·rw[aCf]at h3;exact h3
  ·cases h
 ·cases h
inductive FZ where
 |slice|str|zeros
def cV (k:FZ)(size:Nat)(z:List CV)(x:CV)(st:St):Option (Nat×List CV):=
 match k,x with
 | .slice, .ae=>some (0,[])
 | .slice, .slice b off len cap grow=>(match dG size len (.slice b off len cap grow) st with|some s=>some (len,s)|none=>none)
 | .str, .str l=>some (l.length,l.map bO)
 | .zeros, .int _ (.ofNat n)=>bu (Nat.ble n 1099511627776) (some (n,cH n z)) none
 |_,_=>none
def BO (P:Program)(k:FZ)(u:TypeId)(size:Nat):Prop:=
 match k with
 | .slice=>∃e,P.underlying u=some (.slice e)
 | .str=>P.underlying u=some .string/\size=1
 | .zeros=>∃j,P.underlying u=some (.int j)
def lV (elem:TypeId)(size:Nat)(zeros:Bool)(n:Nat)(ia:Sem (Array Value))(base:Option Addr)(sLen sCap:Nat)(s x:Value):Sem Value:=do
 let need:=sLen+n
 if need<=sCap then
  let new<-ia
  if let some a:=base then storeCells (a.add (sLen*size)) new.toList
  pure (.slice base need sCap)
 else
  if (need:Int)>IntKind.i64.max/\(zeros\/(<-typeInfo elem).bytes=0)then runtimePanic (.error "growslice: len out of range")
  if Builtin.nextslicecap need sCap*(<-typeInfo elem).bytes>2^48 then (if zeros then runtimePanic (.error "growslice: len out of range")else do
   if !(<-Builtin.mayShare size sLen n base x)then mark .noRoom
   unsupported (.resourceLimit "append: a slice or a string whose bytes no memory bears"))
  let Hs<-choose (.appendCap need sCap elem)
  askRoom (Hs*(<-typeInfo elem).bytes)
  let QP<-Builtin.firstCells size sLen s
  let new<-ia
  let rest:=Builtin.zeroCells (<-zeroValue elem).cells (Hs-need)
  pure (.slice (some (<-newRow elem (QP++new++rest))) need Hs)
theorem AI {k:FZ}{t u ty e size:TypeId}{i:TypeInfo}{z:List CV}{z':Value}{x:CV}{x':Value}{n:Nat}{s:List CV}(h:cV k size z x st=some (n,s))(hw:WR ρ st w)(hx:VR ρ x x')
 (hf:BO P k u size) (hu:P.underlying t=some (.slice e)) (hi:P.info? e=some i) (hz:i.zero=some z') (hs:i.size=size) (hsz:z'.cells.size=size) (vJ:∀ρ,eu ρ z z'.cells.toList) (hb:k= .zeros->i.bytes<=256):
 ∃vs zeros ia,eu ρ s vs/\vs.length=n*size/\(∀w1:World,w1.heap=w.heap->ia.run P w1= .ok vs.toArray w1)/\
  ∀base sLen sCap,(Builtin.append_ #[t,u] ty #[.slice base sLen sCap,x']).run P w=(lV e size zeros n ia base sLen sCap (.slice base sLen sCap) x').run P w:=by
 have mI:(Go.sizeOf e).run P w= .ok size w:=by simp[Go.sizeOf,typeInfo,hi,hs]
 unfold cV at h
 split at h
 ·cases h;cases hx;obtain⟨e2,hf⟩:=hf;refine⟨[],false,Builtin.firstCells size 0 (.slice none 0 0),eu.nil ρ,by simp,fun w1 _=>by simp[Builtin.firstCells],fun base sLen sCap=> ?_⟩;simp only[Builtin.append_,aBQ,aAy,aAA,Sem.run_bind,aAL hu,aAL hf,Result.andThen_ok,mI,Sem.run_pure,Builtin.lenOf,lV,aAT,aAY,aAz,aAO]
  rfl
 ·rename_i b off len cap grow
  split at h
  ·rename_i s' tr;cases h;obtain⟨e2,hf⟩:=hf;obtain⟨vs,g1,g2,g3⟩:=lA (P:=P) tr (fun _ h _=>by cases h) hw hx;obtain⟨r,sz,dp,eX,rfl,_⟩:=hx.eH;refine⟨vs,false,_,g1,g2,g3,fun base sLen sCap=> ?_⟩;simp only[Builtin.append_,aBQ,aAy,aAA,Sem.run_bind,aAL hu,aAL hf,Result.andThen_ok,mI,Sem.run_pure,Builtin.lenOf,lV,aAT,aAY,aAz,aAO]
   rfl
  ·cases h
 ·rename_i m;cases h;cases hx;obtain⟨hf,rfl⟩:=hf;refine⟨(m.map fun y:UInt8=>Value.int .u8 (y.toNat:Int)),false,Builtin.firstCells 1 m.length (.string (fG m)), ?_,by simp,fun w1 _=> ?_,fun base sLen sCap=> ?_⟩
  ·exact eu.bytes ρ m
  ·simp only[Builtin.firstCells,Sem.run_pure]
   congr 1
   apply Array.ext'
   have hlen:(fG m).extract 0 m.length=fG m:=by
    have h:(fG m).extract 0 (fG m).size=fG m:=ByteArray.extract_zero_size
    rwa [j9]at h
   rw[hlen];simp[fG]
  ·simp only[Builtin.append_,aBQ,aAy,aAA,Sem.run_bind,aAL hu,aAL hf,Result.andThen_ok,mI,Sem.run_pure,Builtin.lenOf,lV,aAT,aAY,aAz,aAO,j9]
   rfl
 ·rename_i j m;simp only[aO,aBe]at h
  split at h
  ·rename_i hm;cases h;cases hx;obtain⟨j2,hf⟩:=hf
   have hn:IntKind.i64.wrap (Int.ofNat n)=n:=by
    show IntKind.i64.wrap (n:Int)=n;exact IntWalk.i64_in _ (by omega)
   have Pw:∀w1:World,(zeroValue e).run P w1= .ok z' w1:=fun w1=>by simp[zeroValue,typeInfo,hi,hz]
   refine⟨(List.replicate n z'.cells.toList).flatten,true,(if n*size=0 then pure #[]else do pure (Builtin.zeroCells (<-zeroValue e).cells n)), ?_, ?_,fun w1 _=> ?_,fun base sLen sCap=> ?_⟩
   ·exact(vJ ρ).flatten n
   ·simp[hsz]
   ·split
    ·rename_i h0
     have:(List.replicate n z'.cells.toList).flatten=[]:=by
      apply aBa.1;simp[hsz,h0]
     rw[this];rfl
    ·simp only[Sem.run_bind,Pw,Result.andThen_ok,Sem.run_pure]
     congr 1
     apply Array.ext';rw[Builtin.zeroCells,aCj,aDe];exact oP z'.cells n
   ·have h1:¬((n:Int)<0):=by omega
    have h2:¬((n:Int)*i.bytes>2^48):=by
     have h3:n*i.bytes<=1099511627776*256:=aDo hm (hb rfl);have h4:((n*i.bytes:Nat):Int)<=((1099511627776*256:Nat):Int):=Int.ofNat_le.2 h3;rw[Int.natCast_mul]at h4;exact fun h5=>absurd (Int.lt_of_lt_of_le h5 h4) (by decide)
    simp only[Builtin.append_,aBQ,aAy,aAA,Sem.run_bind,aAL hu,aAL hf,Result.andThen_ok,mI,Sem.run_pure,asInt,asIntOf,hn,Sem.run_ite,typeInfo,run_program,hi,
     aAH h1,aAH h2,aDl,lV,aAY,aAU,aAz,aAO]
    rfl
  ·cases h
 ·cases h
end
