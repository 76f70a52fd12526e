import Derived.WalkKit
import Derived.ChangeKeysEq
import Derived.Stop.BytesEq
import Derived.Laws.BytesString
namespace Lim
open Go
abbrev afX:=@List.getElem?_cons_zero
abbrev afY:=@Bool.false_eq_true
abbrev afZ:=@Nat.zero_add
abbrev aga:=@Nat.le_refl
abbrev agb:=@List.getElem?_cons_succ
abbrev agc:=@decide_eq_false
abbrev agd:=@run_underlying
abbrev age:=@List.mem_cons
abbrev agf:=@if_neg
abbrev agh:=@List.getElem?_eq_getElem
abbrev agi:=@decide_eq_true
abbrev agj:=@Bool.not_false
abbrev agk:=@List.take_of_length_le
abbrev agl:=@if_pos
abbrev agm:=@Bool.not_true
abbrev agn:=@if_false
abbrev ago:=@Nat.lt_of_lt_of_le
abbrev agp:=@Bool.and_eq_true
abbrev agq:=@List.length_append
abbrev agr:=@List.length_replicate
abbrev ags:=@if_true
abbrev agt:=@List.getElem?_eq_some_iff
abbrev agu:=@List.length_eq_zero_iff
abbrev agv:=@List.append_assoc
abbrev agw:=@Nat.ble_eq
abbrev agx:=@List.getElem_mem
abbrev agy:=@List.length_take
abbrev agz:=@List.mem_append
abbrev agA:=@Nat.beq_eq
abbrev agB:=@List.getElem?_map
abbrev agC:=@List.drop_zero
abbrev agD:=@Nat.min_eq_left
abbrev agE:=@List.nil_append
abbrev agF:=@List.nodup_cons
abbrev agG:=@Array.getElem?_eq_some_iff
abbrev agH:=@List.map_cons
abbrev agI:=@List.take_succ_eq_append_getElem
abbrev agJ:=@List.mem_map
abbrev agK:=@List.mem_of_getElem?
abbrev agL:=@List.getElem?_eq_none
abbrev agM:=@List.length_map
abbrev agN:=@List.getElem?_append_right
abbrev agO:=@List.mem_cons_of_mem
abbrev agP:=@List.getElem?_toArray
abbrev agQ:=@List.replicate_succ
abbrev agR:=@List.drop_of_length_le
abbrev agS:=@Nat.mul_le_mul_right
abbrev agT:=@List.length_cons
abbrev agU:=@Bool.or_eq_true
abbrev agV:=@List.take_take
abbrev agW:=@decide_true
abbrev agX:=@List.not_mem_nil
abbrev agY:=@Array.getElem?_setIfInBounds_ne
abbrev agZ:=@Ne.symm
abbrev aha:=@Nat.le_trans
abbrev ahb:=@List.getElem_of_mem
abbrev ahc:=@List.append_nil
abbrev ahd:=@List.length_drop
abbrev ahe:=@Option.map_some
abbrev ahf:=@decide_eq_decide
abbrev ahg:=@List.getElem?_append_left
abbrev ahh:=@List.drop_eq_getElem_cons
abbrev ahi:=@Array.toArray_toList
abbrev ahj:=@Array.toList_map
abbrev ahk:=@Nat.add_sub_cancel_left
abbrev ahl:=@List.getD_eq_getElem?_getD
abbrev ahm:=@Nat.add_mul
abbrev ahn:=@List.getElem?_take
abbrev aho:=@List.mem_cons_self
abbrev ahp:=@List.map_append
abbrev ahq:=@Option.some.injEq
abbrev ahr:=@List.flatten_cons
abbrev ahs:=@List.drop_take
abbrev aht:=@List.take_left'
abbrev ahu:=@List.mem_singleton
abbrev ahv:=@Nat.mod_eq_of_lt
abbrev ahw:=@Nat.eq_of_mul_eq_mul_right
abbrev ahx:=@Array.length_toList
abbrev ahy:=@List.mem_map_of_mem
abbrev ahz:=@List.nodup_append
abbrev ahA:=@List.drop_replicate
abbrev ahB:=@decide_eq_true_eq
abbrev ahC:=@Nat.add_zero
abbrev ahD:=@Nat.lt_or_ge
abbrev ahE:=@Nat.mul_comm
abbrev ahF:=@Option.getD_some
abbrev ahG:=@List.getElem_map
abbrev ahH:=@Int.natCast_nonneg
abbrev ahI:=@Prod.mk.injEq
abbrev ahJ:=@Nat.mul_one
abbrev ahK:=@List.size_toArray
abbrev ahL:=@List.ext_getElem?
abbrev ahM:=@List.cons.injEq
abbrev ahN:=@List.replicate_append_replicate
abbrev ahO:=@not_or
abbrev ahP:=@decide_false
abbrev ahQ:=@List.length_pos_iff
abbrev ahR:=@List.take_append
abbrev ahS:=@List.getElem?_drop
abbrev ahT:=@Array.toList_range
abbrev ahU:=@Nat.add_sub_cancel
abbrev ahV:=@List.length_nil
abbrev ahW:=@Nat.one_mul
abbrev ahX:=@Bool.eq_iff_iff
abbrev ahY:=@Nat.succ_le_iff
abbrev ahZ:=@Nat.pow_succ
abbrev aia:=@Int.toNat_natCast
abbrev aib:=@Bool.not_eq_true'
abbrev aic:=@or_false
abbrev aid:=@List.map_map
noncomputable section
def PT (α:Type):=Nat->Option α
namespace PT
variable {α:Type}
def get (t:PT α)(p:Nat):Option α:=t p
def put (t:PT α)(p:Nat)(x:Option α):PT α:=fun q=>if q=p then x else t q
def nil:PT α:=fun _=>none
theorem np (t:PT α)(p q:Nat)(x:Option α):(t.put p x).get q=if q=p then x else t.get q:=rfl
theorem dF (t:PT α)(p:Nat)(x:Option α):(t.put p x).get p=x:=by simp[np]
theorem dh (t:PT α)(p q:Nat)(x:Option α)(h:q≠p):(t.put p x).get q=t.get q:=by simp[np,h]
theorem ext {t u:PT α}(h:∀p,t.get p=u.get p):t=u:=funext h
end PT
def bk {α:Type}(b:Bool)(t f:α):α:=if b=true then t else f
@[simp] theorem aO {α:Type}(b:Bool)(t f:α):bk b t f=if b=true then t else f:=rfl
def j9 {α β:Type}(x:α)(k:α->β):β:=k x
@[simp] theorem dj {α β:Type}(x:α)(k:α->β):j9 x k=k x:=rfl
inductive CV where
 |undef
 |bool (b:Bool)
 |int (k:IntKind) (n:Int)
 |str (l:List UInt8)
 |aC
 |ptr (b:Nat) (off:Nat)
 |aa
 |slice (b:Nat) (off len cap grow:Nat)
 |cD
 |map (b:Nat)
 |func (fn:Fn) (first captured:List CV)
 |iO
 |iface (t:TypeId) (v:CV)
 |cK
 |agg (s:List CV)
 |tuple (s:List CV)
 |gy (n:Nat)
 |any
 |lx
def bo (b:UInt8):CV:= .int .u8 b.toNat
abbrev row (s:List CV):List CV:=s
def fG {α:Type}(s:List α)(off n:Nat):Option (List α):=if off+n<=s.length then some ((s.drop off).take n)else none
def dM {α:Type}(s:List α)(off:Nat)(t:List α):Option (List α):=if off+t.length<=s.length then some (s.take off++(t++s.drop (off+t.length)))else none
theorem gu {α:Type}{s t:List α}{off n:Nat}(h:fG s off n=some t):off+n<=s.length/\t=(s.drop off).take n:=by
 unfold fG at h;split at h
 ·cases h;exact⟨by assumption,rfl⟩
 ·cases h
theorem qA {α:Type}{s t s':List α}{off:Nat}(h:dM s off t=some s'):off+t.length<=s.length/\s'=s.take off++(t++s.drop (off+t.length)):=by
 unfold dM at h;split at h
 ·cases h;exact⟨by assumption,rfl⟩
 ·cases h
inductive mc where
 |cells (s:List CV) (t:TypeId) (grow:Bool)
 |map (es:List (CV×CV×Nat)) (clock:Nat)
 |lmap (es:List (CV×CV×Nat))
 |ro (s:List CV) (o:Obj)
structure St where
 mem:PT mc
 next:Nat
abbrev Ren:=Nat->Option (Nat×Nat)
def fe (l:List UInt8):ByteArray:=⟨l.toArray⟩
@[simp] theorem hE (l:List UInt8):(fe l).size=l.length:=by simp[fe,ByteArray.size]
theorem uj (s:ByteArray):fe s.data.toList=s:=by cases s;simp[fe]
inductive VR (ρ:Ren):CV->Value->Prop where
 |undef:VR ρ .undef (.tuple #[])
 |bool (b:Bool):VR ρ (.bool b) (.bool b)
 |int (k:IntKind) (n:Int):VR ρ (.int k n) (.int k n)
 |str (l:List UInt8):VR ρ (.str l) (.string (fe l))
 |aC:VR ρ .aC (.pointer none)
 |ptr (b:Nat) (off r sz:Nat) (h:ρ b=some (r,sz)):VR ρ (.ptr b off) (.pointer (some ⟨r,off,none⟩))
 |aa:VR ρ .aa (.slice none 0 0)
 |slice (b:Nat) (off len cap r sz:Nat) (h:ρ b=some (r,sz)):VR ρ (.slice b off len cap 0) (.slice (some ⟨r,off,none⟩) len cap)
 |lu (b:Nat) (off cx len cap cap' grow r sz:Nat) (h:ρ b=some (r,sz)) (hg:0<grow) (hl:len<=cap) (hc:cap<=cap') (ho:0<cap->cx=off)
  (hs:cx+cap'*grow<=sz):VR ρ (.slice b off len cap grow) (.slice (some ⟨r,cx,none⟩) len cap')
 |cD:VR ρ .cD (.map none)
 |map (b:Nat) (r sz:Nat) (h:ρ b=some (r,sz)):VR ρ (.map b) (.map (some r))
 |func (fn:Fn) (f c:List CV) (f' c':List Value) (hf:(row f).length=f'.length) (hc:(row c).length=c'.length)
  (h1:∀(i:Nat) (v:CV) (v':Value),(row f)[i]?=some v->f'[i]?=some v'->VR ρ v v')
  (h2:∀(i:Nat) (v:CV) (v':Value),(row c)[i]?=some v->c'[i]?=some v'->VR ρ v v'):VR ρ (.func fn f c) (.func fn f'.toArray c'.toArray)
 |iO:VR ρ .iO .nilFunc
 |iface (t:TypeId) (v:CV) (v':Value) (h:VR ρ v v'):VR ρ (.iface t v) (.iface t v')
 |cK:VR ρ .cK .nilIface
 |agg (s:List CV) (l:List Value) (hl:(row s).length=l.length)
  (h:∀(i:Nat) (v:CV) (v':Value),(row s)[i]?=some v->l[i]?=some v'->VR ρ v v'):VR ρ (.agg s) (.agg l.toArray)
 |tuple (s:List CV) (l:List Value) (hl:(row s).length=l.length)
  (h:∀(i:Nat) (v:CV) (v':Value),(row s)[i]?=some v->l[i]?=some v'->VR ρ v v'):VR ρ (.tuple s) (.tuple l.toArray)
 |gy (n:Nat) (m:Int) (h:(n:Int)<=m):VR ρ (.gy n) (.int .i64 m)
 |any (v':Value):VR ρ .any v'
 |lx (a:Addr):VR ρ .lx (.slice (some a) 0 0)
structure cL (ρ:Ren)(l:List CV)(l':List Value):Prop where
 len:l.length=l'.length
 ji:∀(i:Nat) (v:CV) (v':Value),l[i]?=some v->l'[i]?=some v'->VR ρ v v'
def Ren.le (ρ ρ':Ren):Prop:=∀b r,ρ b=some r->ρ' b=some r
theorem VR.mono {ρ ρ':Ren}(hle:ρ.le ρ'){v:CV}{v':Value}(h:VR ρ v v'):VR ρ' v v':=by
 induction h with
 |undef=>exact .undef
 |bool b=>exact .bool b
 |int k n=>exact .int k n
 |str l=>exact .str l
 |aC=>exact .aC
 |ptr b off r sz h=>exact .ptr b off r sz (hle _ _ h)
 |aa=>exact .aa
 |slice b off len cap r sz h=>exact .slice b off len cap r sz (hle _ _ h)
 |lu b off cx len cap cap' grow r sz h hg hl hc ho hs=>exact .lu b off cx len cap cap' grow r sz (hle _ _ h) hg hl hc ho hs
 |cD=>exact .cD
 |map b r sz h=>exact .map b r sz (hle _ _ h)
 |func fn f c f' c' hf hc h1 h2 ih1 SZ=>exact .func fn f c f' c' hf hc ih1 SZ
 |iO=>exact .iO
 |iface t v v' _ ih=>exact .iface t v v' ih
 |cK=>exact .cK
 |agg s l hl _ ih=>exact .agg s l hl ih
 |tuple s l hl _ ih=>exact .tuple s l hl ih
 |gy n m h=>exact .gy n m h
 |any v'=>exact .any v'
 |lx a=>exact .lx a
theorem cL.mono {ρ ρ':Ren}(hle:ρ.le ρ'){l:List CV}{l':List Value}(h:cL ρ l l'):cL ρ' l l':=
 ⟨h.len,fun i v v' a b=>(h.ji i v v' a b).mono hle⟩
theorem cL.nil (ρ:Ren):cL ρ [] []:=⟨rfl,fun i v v' h=>by simp at h⟩
theorem cL.cons {ρ:Ren}{v:CV}{v':Value}{l:List CV}{l':List Value}(h:VR ρ v v')(t:cL ρ l l'):cL ρ (v::l) (v'::l'):=
 ⟨by simp[t.len],fun i x x' a b=>by
  cases i with
  |zero=>simp at a b;subst a;subst b;exact h
  |succ i=>exact t.ji i x x' (by simpa using a) (by simpa using b)⟩
theorem cL.inv {ρ:Ren}{v:CV}{l:List CV}{l':List Value}(h:cL ρ (v::l) l'):∃v' t',l'=v'::t'/\VR ρ v v'/\cL ρ l t':=by
 cases l' with
 |nil=>have:=h.len;simp at this
 |cons v' t'=>
  exact⟨v',t',rfl,h.ji 0 v v' rfl rfl,⟨by have:=h.len;simpa using this,fun i x x' a b=>h.ji (i+1) x x' (by simpa using a) (by simpa using b)⟩⟩
theorem cL.app {ρ:Ren}{l m:List CV}{l' m':List Value}(h:cL ρ l l')(t:cL ρ m m'):cL ρ (l++m) (l'++m'):=by
 induction l generalizing l' with
 |nil=>have:l'=[]:=by have:=h.len;simpa using this.symm
       subst this;exact t
 |cons v l ih=>obtain⟨v',t',rfl,h1,h2⟩:=h.inv;exact cL.cons h1 (ih h2)
theorem cL.take {ρ:Ren}{l:List CV}{l':List Value}(h:cL ρ l l')(n:Nat):cL ρ (l.take n) (l'.take n):=
 ⟨by simp[h.len],fun i v v' a b=>by
  rw[ahn]at a b
  split at a
  ·rename_i hi;rw[agl hi]at b;exact h.ji i v v' a b
  ·cases a⟩
theorem cL.drop {ρ:Ren}{l:List CV}{l':List Value}(h:cL ρ l l')(n:Nat):cL ρ (l.drop n) (l'.drop n):=
 ⟨by simp[h.len],fun i v v' a b=>by rw[ahS]at a b;exact h.ji _ v v' a b⟩
theorem cL.bytes (ρ:Ren)(l:List UInt8):cL ρ (l.map bo) (l.map fun b:UInt8=>Value.int .u8 (b.toNat:Int)):=by
 induction l with
 |nil=>exact cL.nil ρ
 |cons a l ih=>exact cL.cons (.int _ _) ih
inductive BR (ρ:Ren):mc->Obj->Nat->Prop where
 |cells (s:List CV) (t:TypeId) (g:Bool) (c:Array Value) (lo hi:Nat) (hlen:s.length<=c.size)
  (hc:cL ρ (row s) (c.toList.take s.length)) (hf:∀k,k<c.size->¬(lo<=k/\k<hi)) (hg:g=false->∀k,¬(lo<=k/\k<hi)):BR ρ (.cells s t g) (.cells c t (lo,hi)) c.size
 |map (es:List (CV×CV×Nat)) (clock:Nat) (es':List MapEntry) (hl:es.length=es'.length)
  (h:∀(i:Nat) (e:CV×CV×Nat) (e':MapEntry),es[i]?=some e->es'[i]?=some e'->VR ρ e.1 e'.key/\VR ρ e.2.1 e'.val/\e.2.2=e'.born) (sz:Nat):
  BR ρ (.map es clock) (.map es'.toArray clock) sz
 |lmap (es l:List (CV×CV×Nat)) (clock:Nat) (es':List MapEntry) (hp:l.Perm es) (hi:∀e∈es,∃n:Int,e.1= .int .i64 n) (hn:(es.map (·.1)).Nodup) (hs:Go.MapKept.Stamped es'.toArray clock) (hl:l.length=es'.length)
  (h:∀(i:Nat) (e:CV×CV×Nat) (e':MapEntry),l[i]?=some e->es'[i]?=some e'->VR ρ e.1 e'.key/\VR ρ e.2.1 e'.val) (sz:Nat):BR ρ (.lmap es) (.map es'.toArray clock) sz
 |ro (s:List CV) (c:Array Value) (t:TypeId) (lo hi:Nat) (hlen:s.length<=c.size) (hc:cL ρ (row s) (c.toList.take s.length)):BR ρ (.ro s (.cells c t (lo,hi))) (.cells c t (lo,hi)) c.size
theorem BR.mono {ρ ρ':Ren}(hle:ρ.le ρ'){b:mc}{o:Obj}{n:Nat}(h:BR ρ b o n):BR ρ' b o n:=by
 cases h with
 |cells s t g c lo hi hlen hc hf hg=>exact .cells s t g c lo hi hlen (hc.mono hle) hf hg
 |map es clock es' hl h=>
  exact .map es clock es' hl (fun i e e' a b=>let ⟨x,y,z⟩:=h i e e' a b;⟨x.mono hle,y.mono hle,z⟩) _
 |lmap es l clock es' hp hi hn hs hl h=>exact .lmap es l clock es' hp hi hn hs hl (fun i e e' a b=>let ⟨x,y⟩:=h i e e' a b;⟨x.mono hle,y.mono hle⟩) _
 |ro s c t lo hi hlen hc=>exact .ro s c t lo hi hlen (hc.mono hle)
structure WR (ρ:Ren)(st:St)(w:World):Prop where
 ji:∀b blk r sz,st.mem.get b=some blk->ρ b=some (r,sz)->∃o,w.heap[r]?=some o/\BR ρ blk o sz
 inj:∀b b' blk dz r sz C7,st.mem.get b=some blk->st.mem.get b'=some dz->ρ b=some (r,sz)->ρ b'=some (r,C7)->b=b'
 fresh:∀b x,ρ b=some x->b<st.next
structure aY (ρ:Ren)(st:St)(w:World)(ρ':Ren)(st':St)(w':World):Prop where
 wr:WR ρ' st' w'
 ext:ρ.le ρ'
 Gb:∀b,b<st.next->ρ b=none->ρ' b=none
 next:st.next<=st'.next
 origin:∀b blk r sz,st'.mem.get b=some blk->ρ' b=some (r,sz)->(∃b0 gw vj,st.mem.get b0=some gw/\ρ b0=some (r,vj))\/w.heap.size<=r
 kept:∀r:Nat,r<w.heap.size->(∀b blk sz,st.mem.get b=some blk->ρ b≠some (r,sz))->w'.heap[r]?=w.heap[r]?
 size:w.heap.size<=w'.heap.size
 os:w'.os=w.os
 output:w'.output=w.output
theorem aY.refl {ρ:Ren}{st:St}{w:World}(h:WR ρ st w):aY ρ st w ρ st w:=
 ⟨h,fun _ _ h=>h,fun _ _ h=>h,aga _,fun b blk _ sz h1 h2=> .inl ⟨b,blk,sz,h1,h2⟩,fun _ _ _=>rfl,aga _,rfl,rfl⟩
theorem aY.trans {ρ ρ1 ρ2:Ren}{st eY nZ:St}{w w1 w2:World}(a:aY ρ st w ρ1 eY w1)(b:aY ρ1 eY w1 ρ2 nZ w2):
 aY ρ st w ρ2 nZ w2 where
 wr:=b.wr
 ext:=fun _ _ h=>b.ext _ _ (a.ext _ _ h)
 Gb:=fun q hq h=>b.Gb q (ago hq a.next) (a.Gb q hq h)
 next:=aha a.next b.next
 origin:=fun x blk r sz h1 h2=>by
  rcases b.origin x blk r sz h1 h2 with⟨b0,gw,vj,h3,h4⟩|h3
  ·exact a.origin b0 gw r vj h3 h4
  ·exact .inr (aha a.size h3)
 kept:=fun r hr hn=>by
  rw[b.kept r (ago hr a.size),a.kept r hr hn];intro x blk sz h1 h2;rcases a.origin x blk r sz h1 h2 with⟨b0,gw,vj,h3,h4⟩|h3
  ·exact hn b0 gw vj h3 h4
  ·omega
 size:=aha a.size b.size
 os:=b.os.trans a.os
 output:=b.output.trans a.output
theorem WR.wv {ρ:Ren}{st:St}{w w':World}(h:WR ρ st w)(e:w'.heap=w.heap):WR ρ st w':=
 ⟨fun b blk r sz hb hr=>by rw[e];exact h.ji b blk r sz hb hr,h.inj,h.fresh⟩
theorem aY.draw {ρ:Ren}{st:St}{w:World}(h:WR ρ st w)(d:Nat):aY ρ st w ρ st {w with drawn:=d}:=
 ⟨h.wv rfl,fun _ _ h=>h,fun _ _ h=>h,aga _,fun b blk _ sz h1 h2=> .inl ⟨b,blk,sz,h1,h2⟩,fun _ _ _=>rfl,aga _,rfl,rfl⟩
def Ren.set (ρ:Ren)(b:Nat)(x:Nat×Nat):Ren:=fun q=>if b=q then some x else ρ q
theorem Ren.cE (ρ:Ren)(b:Nat)(x:Nat×Nat):ρ.set b x b=some x:=by simp[Ren.set]
theorem Ren.bX (ρ:Ren)(b q:Nat)(x:Nat×Nat)(h:q≠b):ρ.set b x q=ρ q:=by
 unfold Ren.set;rw[agf];intro e;exact h (e.symm)
def St.new (st:St)(blk:mc):St:=⟨st.mem.put st.next (some blk),(st.next+1)⟩
theorem aY.new {ρ:Ren}{st:St}{w:World}(h:WR ρ st w){blk:mc}{o:Obj}{sz:Nat}(hb:BR (ρ.set st.next (w.heap.size,sz)) blk o sz):
 aY ρ st w (ρ.set st.next (w.heap.size,sz)) (st.new blk) {w with heap:=w.heap.push o}/\ρ.set st.next (w.heap.size,sz) st.next=some (w.heap.size,sz):=by
 have iJ:∀b x,ρ b=some x->b≠st.next:=fun b x hx e=>by have:=h.fresh b x hx;rw[e]at this;omega
 have hle:ρ.le (ρ.set st.next (w.heap.size,sz)):=fun b _ hr=>by rw[Ren.bX _ _ _ _ (iJ b _ hr)];exact hr
 have hlt:∀b blk r s,st.mem.get b=some blk->ρ b=some (r,s)->r<w.heap.size:=fun b blk r s h1 h2=>by
  obtain⟨o',e2,_⟩:=h.ji b blk r s h1 h2;exact(agG.1 e2).1
 have hold:∀b dz,b≠st.next->(st.new blk).mem.get b=some dz->st.mem.get b=some dz:=fun b dz hb h1=>by
  simpa[St.new,PT.dh _ _ _ _ hb]using h1
 have Mq:∀b dz r s,(st.new blk).mem.get b=some dz->ρ.set st.next (w.heap.size,sz) b=some (r,s)->(∃b0 gw vj,st.mem.get b0=some gw/\ρ b0=some (r,vj))\/w.heap.size<=r:=fun b dz r s h1 h2=>by
  by_cases e:b=st.next
  ·subst e;rw[Ren.cE]at h2;cases h2;exact .inr (aga _)
  ·rw[Ren.bX _ _ _ _ e]at h2;exact .inl ⟨b,dz,s,hold b dz e h1,h2⟩
 have CF:∀r:Nat,r<w.heap.size->(∀b blk sz,st.mem.get b=some blk->ρ b≠some (r,sz))->(w.heap.push o)[r]?=w.heap[r]?:=fun r hr _=>by
  rw[Array.getElem?_push,agf (by omega)]
 refine⟨⟨⟨fun b dz r s h1 h2=> ?_,fun b b' sR sQ r s s' h1 h2 h3 h4=> ?_,fun b x hx=> ?_⟩,hle,fun q hq hn=>by rw[Ren.bX _ _ _ _ (fun e=>by rw[e]at hq;omega)];exact hn, ?_,Mq,CF,by simp,rfl,rfl⟩,Ren.cE _ _ _⟩
 ·by_cases e:b=st.next
  ·subst e;simp only[St.new,PT.dF,ahq]at h1;subst h1;rw[Ren.cE]at h2;cases h2;exact⟨o,by simp,hb⟩
  ·rw[Ren.bX _ _ _ _ e]at h2;obtain⟨o',e2,e3⟩:=h.ji b dz r s (hold b dz e h1) h2;refine⟨o', ?_,e3.mono hle⟩;have:=(agG.1 e2).1;rw[Array.getElem?_push,agf (by omega)];exact e2
 ·by_cases e:b=st.next
  ·by_cases e':b'=st.next
   ·rw[e,e']
   ·rw[e,Ren.cE]at h3;cases h3;rw[Ren.bX _ _ _ _ e']at h4;have:=hlt b' sQ _ _ (hold b' sQ e' h2) h4;omega
  ·by_cases e':b'=st.next
   ·rw[e',Ren.cE]at h4;cases h4;rw[Ren.bX _ _ _ _ e]at h3;have:=hlt b sR _ _ (hold b sR e h1) h3;omega
   ·rw[Ren.bX _ _ _ _ e]at h3;rw[Ren.bX _ _ _ _ e']at h4;exact h.inj b b' sR sQ r s s' (hold b sR e h1) (hold b' sQ e' h2) h3 h4
 ·show b<(st.next+1)
  by_cases e:b=st.next
  ·subst e;omega
  ·rw[Ren.bX _ _ _ _ e]at hx;have:=h.fresh b x hx;omega
 ·show st.next<=(st.next+1);omega
def St.set (st:St)(b:Nat)(blk:mc):St:=⟨st.mem.put b (some blk),st.next⟩
theorem aY.set {ρ:Ren}{st:St}{w w':World}(h:WR ρ st w){b:Nat}{gw blk:mc}{r sz:Nat}{o:Obj}(h0:st.mem.get b=some gw)(hr:ρ b=some (r,sz))
 (ho:w'.heap[r]?=some o) (hb:BR ρ blk o sz) (hk:∀k,k≠r->w'.heap[k]?=w.heap[k]?) (hs:w'.heap.size=w.heap.size) (TV:w'.os=w.os) (KC:w'.output=w.output):
 aY ρ st w ρ (st.set b blk) w' where
 wr:={
  ji:=fun q dz r' s' h1 e1=>by
   by_cases e:q=b
   ·subst e;simp only[St.set,PT.dF,ahq]at h1;subst h1;rw[hr]at e1;cases e1;exact⟨o,ho,hb⟩
   ·simp only[St.set,PT.dh _ _ _ _ e]at h1;obtain⟨o',e2,e3⟩:=h.ji q dz r' s' h1 e1;refine⟨o', ?_,e3⟩;rw[hk r' (fun e'=>e (h.inj q b dz gw r s' sz h1 h0 (by rw[e1,e']) hr))];exact e2
  inj:=fun q q' sR sQ r1 s1 s2 h1 h2 h3 h4=>by
   have g:∀q dz,(st.set b blk).mem.get q=some dz->∃x,st.mem.get q=some x:=fun q dz hq=>by
    by_cases e:q=b
    ·subst e;exact⟨_,h0⟩
    ·simp only[St.set,PT.dh _ _ _ _ e]at hq;exact⟨_,hq⟩
   obtain⟨x1,g1⟩:=g q sR h1;obtain⟨x2,g2⟩:=g q' sQ h2;exact h.inj q q' x1 x2 r1 s1 s2 g1 g2 h3 h4
  fresh:=h.fresh}
 ext:=fun _ _ h=>h
 Gb:=fun _ _ h=>h
 next:=aga _
 origin:=fun q dz r1 s1 h1 h2=>by
  by_cases e:q=b
  ·subst e;exact .inl ⟨q,gw,s1,h0,h2⟩
  ·simp only[St.set,PT.dh _ _ _ _ e]at h1;exact .inl ⟨q,dz,s1,h1,h2⟩
 kept:=fun k _ hn=>hk k (fun e=>hn b gw sz h0 (by rw[hr,e]))
 size:=by omega
 os:=TV
 output:=KC
def St.move (st:St)(b:Nat)(blk:mc):St:=⟨(st.mem.put b none).put st.next (some blk),(st.next+1)⟩
theorem aY.move {ρ:Ren}{st:St}{w w':World}(h:WR ρ st w){b:Nat}{gw blk:mc}{r sz:Nat}{o:Obj}(h0:st.mem.get b=some gw)(hr:ρ b=some (r,sz))
 (ho:w'.heap[r]?=some o) (hb:BR (ρ.set st.next (r,sz)) blk o sz) (hk:∀k,k≠r->w'.heap[k]?=w.heap[k]?) (hs:w'.heap.size=w.heap.size) (TV:w'.os=w.os) (KC:w'.output=w.output):
 aY ρ st w (ρ.set st.next (r,sz)) (st.move b blk) w':=by
 have iJ:∀q x,ρ q=some x->q≠st.next:=fun q x hx e=>by have:=h.fresh q x hx;rw[e]at this;omega
 have hle:ρ.le (ρ.set st.next (r,sz)):=fun q x hx=>by rw[Ren.bX _ _ _ _ (iJ q x hx)];exact hx
 have hbn:=iJ b _ hr
 have hold:∀q dz,q≠st.next->(st.move b blk).mem.get q=some dz->q≠b/\st.mem.get q=some dz:=fun q dz hq h1=>by
  simp only[St.move,PT.dh _ _ _ _ hq]at h1
  by_cases e:q=b
  ·subst e;rw[PT.dF]at h1;cases h1
  ·rw[PT.dh _ _ _ _ e]at h1;exact⟨e,h1⟩
 have Mq:∀q dz r1 s,(st.move b blk).mem.get q=some dz->ρ.set st.next (r,sz) q=some (r1,s)->(∃b0 gw vj,st.mem.get b0=some gw/\ρ b0=some (r1,vj))\/w.heap.size<=r1:=fun q dz r1 s h1 h2=>by
  by_cases e:q=st.next
  ·subst e;rw[Ren.cE]at h2;cases h2;exact .inl ⟨b,gw,sz,h0,hr⟩
  ·rw[Ren.bX _ _ _ _ e]at h2;obtain⟨_,h1⟩:=hold q dz e h1;exact .inl ⟨q,dz,s,h1,h2⟩
 have CF:∀k:Nat,k<w.heap.size->(∀b blk sz,st.mem.get b=some blk->ρ b≠some (k,sz))->w'.heap[k]?=w.heap[k]?:=fun k _ hn=>hk k (fun e=>hn b gw sz h0 (by rw[hr,e]));refine⟨⟨fun q dz r' s' h1 e1=> ?_,fun q q' sR sQ r1 s s' h1 h2 h3 h4=> ?_,fun q x hx=> ?_⟩,hle,fun q hq hn=>by rw[Ren.bX _ _ _ _ (fun e=>by rw[e]at hq;omega)];exact hn, ?_,Mq,CF,by omega,TV,KC⟩
 ·by_cases e:q=st.next
  ·subst e;simp only[St.move,PT.dF,ahq]at h1;subst h1;rw[Ren.cE]at e1;cases e1;exact⟨o,ho,hb⟩
  ·obtain⟨eb,h1⟩:=hold q dz e h1;rw[Ren.bX _ _ _ _ e]at e1;obtain⟨o',e2,e3⟩:=h.ji q dz r' s' h1 e1;refine⟨o', ?_,e3.mono hle⟩;rw[hk r' (fun e'=>eb (h.inj q b dz gw r s' sz h1 h0 (by rw[e1,e']) hr))];exact e2
 ·by_cases e:q=st.next
  ·by_cases e':q'=st.next
   ·rw[e,e']
   ·rw[e,Ren.cE]at h3;cases h3;rw[Ren.bX _ _ _ _ e']at h4;obtain⟨eb,h2⟩:=hold q' sQ e' h2;exact absurd (h.inj q' b sQ gw r s' sz h2 h0 h4 hr) eb
  ·by_cases e':q'=st.next
   ·rw[e',Ren.cE]at h4;cases h4;rw[Ren.bX _ _ _ _ e]at h3;obtain⟨eb,h1⟩:=hold q sR e h1;exact absurd (h.inj q b sR gw r s sz h1 h0 h3 hr) eb
   ·rw[Ren.bX _ _ _ _ e]at h3;rw[Ren.bX _ _ _ _ e']at h4;exact h.inj q q' sR sQ r1 s s' (hold q sR e h1).2 (hold q' sQ e' h2).2 h3 h4
 ·show q<(st.next+1)
  by_cases e:q=st.next
  ·subst e;omega
  ·rw[Ren.bX _ _ _ _ e]at hx;have:=h.fresh q x hx;omega
 ·show st.next<=(st.next+1);omega
theorem xV (j k:IntKind):decide (j=k)=true↔j=k:=by simp
abbrev PO (x y:Int):Bool:=decide (x=y)
theorem vb (x y:Int):PO x y=true↔x=y:=by simp
def gD (op:BinOp)(k:IntKind)(x y:Int):Option Int:=
 match op with
 | .and=>some (k.wrap (BitVec.ofInt k.bits x&&&BitVec.ofInt k.bits y).toNat)
 | .or=>some (k.wrap (BitVec.ofInt k.bits x|||BitVec.ofInt k.bits y).toNat)
 | .xor=>some (k.wrap (BitVec.ofInt k.bits x^^^BitVec.ofInt k.bits y).toNat)
 | .andNot=>some (k.wrap (BitVec.ofInt k.bits x&&& ~~~BitVec.ofInt k.bits y).toNat)
 |_=>none
theorem qw (P:Program)(w:World)(op:BinOp)(k:IntKind)(x y r:Int)(h:gD op k x y=some r):
 (Op.intBits op k x y).run P w= .ok (.int k r) w:=by
 cases op<;>simp only[gD,ahq,reduceCtorEq]at h<;>subst h<;>rfl
def CV.isAny (v:CV):Bool:=match v with| .any=>true|_=>false
def CV.bL (v:CV):List CV:=
 match v with
 | .agg s=>s
 |v=>[v]
theorem xu {v:CV}(h:∀s,v≠ .agg s):v.bL=[v]:=by
 cases v<;>first|rfl|exact absurd rfl (h _)
theorem gL (g o i:Nat):(⟨g,o,none⟩:Addr).add i=⟨g,o+i,none⟩:=by unfold Addr.add;split<;>simp_all
theorem cZ (P:Program)(w:World)(r o n:Nat)(c:Array Value)(t:TypeId)(fz:Nat×Nat)(h:w.heap[r]?=some (.cells c t fz))(hn:o+n<=c.size):
 (loadCells ⟨r,o,none⟩ n).run P w= .ok ((c.toList.drop o).take n).toArray w:=by
 have hl:((c.toList.drop o).take n).length=n:=by simp;omega
 have:=run_loadCells_list (P:=P) w ⟨r,o,none⟩ ((c.toList.drop o).take n) (fun j v hj=>by
  rw[gL];rw[ahn]at hj
  split at hj
  ·rw[ahS]at hj;simp only[World.cell?,h]
   simpa using hj
  ·cases hj)
 rw[hl]at this;exact this
theorem ju (P:Program)(w:World)(r o:Nat)(c:Array Value)(t:TypeId)(fz:Nat×Nat)(v:Value)(h:w.heap[r]?=some (.cells c t fz))(hv:c.toList[o]?=some v):
 (load ⟨r,o,none⟩).run P w= .ok v w:=by
 have:w.cell? ⟨r,o,none⟩=some v:=by simp only[World.cell?,h];simpa using hv
 rw[run_load,this]
theorem fy (P:Program)(g o:Nat)(t:TypeId)(lo hi:Nat):∀(vs:List Value) (i:Nat) (cur:Array Value) (w:World),w.heap[g]?=some (.cells cur t (lo,hi))->
 (∀k,k<cur.size->¬(lo<=k/\k<hi))->o+i+vs.length<=cur.size->(∀v∈vs,v.oneCell'=true)->
 (storeCells ⟨g,o,none⟩ vs i).run P w= .ok () (w.setRow g (cur.toList.take (o+i)++vs++cur.toList.drop (o+i+vs.length)).toArray)
 |[],i,cur,w,hg,_,_,_=>by
  simp only[storeCells,ahc,ahV,ahC,List.take_append_drop,ahi];rw[setRow_self w g cur t (lo,hi) hg]
  rfl
 |v::rest,i,cur,w,hg,XU,hl,h1=>by
  have gK:o+i<cur.size:=by simp at hl;omega
  have mQ:w.cell? ⟨g,o+i,none⟩=some cur[o+i]:=by simp[World.cell?,hg,gK]
  have UP:w.frozen? ⟨g,o+i,none⟩=false:=by
   have:=XU (o+i) gK;simp only[World.frozen?,hg,Bool.and_eq_false_iff,decide_eq_false_iff_not];omega
  have kQ:(store ((⟨g,o,none⟩:Addr).add i) v).run P w= .ok () (w.setRow g (cur.setIfInBounds (o+i) v)):=by
   rw[gL,run_store P w _ v _ (h1 v (by simp)),mQ];simp[UP,setCell_eq_setRow w g (o+i) cur t (lo,hi) v hg]
  have ih:=fy P g o t lo hi rest (i+1) (cur.setIfInBounds (o+i) v) (w.setRow g (cur.setIfInBounds (o+i) v)) (setRow_heap w g cur _ t _ hg)
   (by simpa using XU) (by simp at hl⊢;omega) (fun x hx=>h1 x (by simp[hx]))
  simp only[storeCells,Sem.run_bind,kQ,Result.andThen_ok,ih,setRow_setRow]
  congr 3
  have e:=list_seg_step cur.toList (o+i) v rest (by simp at hl⊢;omega)
  simpa[Array.toList_setIfInBounds,Nat.add_assoc]using e
theorem lz (w:World)(g:Nat)(c:Array Value)(k:Nat)(h:k≠g):(w.setRow g c).heap[k]?=w.heap[k]?:=by
 unfold World.setRow;simp only[Array.getElem?_modify];rw[agf (fun e=>h e.symm)]
theorem my (w:World)(g:Nat)(c:Array Value):(w.setRow g c).heap.size=w.heap.size:=by
 unfold World.setRow;simp
theorem WR.row {ρ:Ren}{st:St}{w:World}(h:WR ρ st w){b:Nat}{s:List CV}{t:TypeId}{g:Bool}{r sz:Nat}(h1:st.mem.get b=some (.cells s t g))(h2:ρ b=some (r,sz)):
 ∃c lo hi,w.heap[r]?=some (.cells c t (lo,hi))/\c.size=sz/\s.length<=sz/\cL ρ s (c.toList.take s.length)/\(∀k,k<c.size->¬(lo<=k/\k<hi)):=by
 obtain⟨o,e2,e3⟩:=h.ji b _ r sz h1 h2;cases e3 with
 |cells _ _ _ c lo hi hlen hc hf hg=>exact⟨c,lo,hi,e2,rfl,hlen,hc,hf⟩
theorem WR.Dr {ρ:Ren}{st:St}{w:World}(h:WR ρ st w){b:Nat}{s:List CV}{o0:Obj}{r sz:Nat}(h1:st.mem.get b=some (.ro s o0))(h2:ρ b=some (r,sz)):
 ∃c t lo hi,w.heap[r]?=some (.cells c t (lo,hi))/\c.size=sz/\s.length<=sz/\cL ρ s (c.toList.take s.length):=by
 obtain⟨o,e2,e3⟩:=h.ji b _ r sz h1 h2;cases e3 with
 |ro _ c t lo hi hlen hc=>exact⟨c,t,lo,hi,e2,rfl,hlen,hc⟩
theorem WR.Nh {ρ:Ren}{st:St}{w:World}(h:WR ρ st w){b:Nat}{s:List CV}{t:TypeId}{g:Bool}{r sz:Nat}(h1:st.mem.get b=some (.cells s t g))(h2:ρ b=some (r,sz)){c:Array Value}{lo hi:Nat}(h3:w.heap[r]?=some (.cells c t (lo,hi))):g=false->∀k,¬(lo<=k/\k<hi):=by
 obtain⟨o,e2,e3⟩:=h.ji b _ r sz h1 h2;rw[h3]at e2;cases e2;cases e3 with
 |cells _ _ _ c lo hi hlen hc hf hg=>exact hg
theorem VR.bL {ρ:Ren}{v:CV}{v':Value}(h:VR ρ v v')(hn:v.isAny=false):cL ρ (v.bL) v'.cells.toList:=by
 by_cases ha:∃s,v= .agg s
 ·obtain⟨s,rfl⟩:=ha;cases h with
  |agg s l hl h=>exact⟨by simpa[CV.bL,Value.cells]using hl,fun i v v' a b=>h i v v' a (by simpa[Value.cells]using b)⟩
 ·rw[xu (fun s e=>ha ⟨s,e⟩)];have:v'.cells= #[v']:=by cases h<;>first|rfl|(cases hn;done)|exact absurd ⟨_,rfl⟩ ha
  rw[this];exact cL.cons h (cL.nil ρ)
theorem VR.wK {ρ:Ren}{s:List CV}{l:List Value}(h:cL ρ s l):VR ρ (.agg s) (.agg l.toArray):= .agg s l h.len h.ji
theorem VR.tuple' {ρ:Ren}{s:List CV}{l:List Value}(h:cL ρ s l):VR ρ (.tuple s) (.tuple l.toArray):= .tuple s l h.len h.ji
theorem cL.get {ρ:Ren}{l:List CV}{l':List Value}(h:cL ρ l l'){i:Nat}{v:CV}(hv:l[i]?=some v):∃v',l'[i]?=some v'/\VR ρ v v':=by
 have hi:i<l.length:=by
  rcases ahD i l.length with h|h
  ·exact h
  ·simp[agL h]at hv
 have:=h.len▸hi;exact⟨l'[i],by simp,h.ji i v _ hv (by simp)⟩
def bW (v:CV):Bool:=match v with| .agg _| .tuple _| .undef| .any=>false|_=>true
def bu (s:List CV):Bool:=s.all bW
theorem lI {ρ:Ren}{v:CV}{v':Value}(h:VR ρ v v')(ho:bW v=true):v'.oneCell'=true:=by
 cases h<;>first|rfl|(simp[bW]at ho)
theorem uE {x:CV}(h:bu x.bL=true):x.isAny=false:=by
 cases x<;>first|rfl|(simp[bu,CV.bL,bW]at h)
theorem lH (s:List CV)(h:bu s=true):∀v∈s,bW v=true:=by simpa[bu]using h
theorem aY.write {P:Program}{ρ:Ren}{st:St}{w:World}(h:WR ρ st w){b:Nat}{s t s':List CV}{ty:TypeId}{g:Bool}{off r sz:Nat}{vs:List Value}
 (h1:st.mem.get b=some (.cells s ty g)) (h2:ρ b=some (r,sz)) (hw:dM s off t=some s') (hv:cL ρ t vs) (ho:bu t=true):
 ∃w',(storeCells ⟨r,off,none⟩ vs).run P w= .ok () w'/\aY ρ st w ρ (st.set b (.cells s' ty g)) w':=by
 obtain⟨c,lo,hi,e1,e2,e3,e4,e5⟩:=h.row h1 h2;obtain⟨w1,w2⟩:=qA hw;have hlen:vs.length=t.length:=by rw[<-hv.len]
 have kR:∀v∈vs,v.oneCell'=true:=fun v hm=>by
  obtain⟨i,gK,rfl⟩:=ahb hm;have:=hv.len▸gK;exact lI (hv.ji i t[i] _ (by simp) (by simp)) (lH t ho _ (agx _))
 have ie:=fy P r off ty lo hi vs 0 c w e1 e5 (by omega) kR;refine⟨_,ie, ?_⟩
 have qf:s'.length=s.length:=by
  have:=congrArg List.length (w2);simp only[agq,agy,ahd]at this;omega
 have ku:=setRow_heap w r c (c.toList.take (off+0)++vs++c.toList.drop (off+0+vs.length)).toArray ty (lo,hi) e1
 have hcs:(c.toList.take (off+0)++vs++c.toList.drop (off+0+vs.length)).toArray.size=sz:=by
  simp only[ahK,agq,agy,ahd,ahx];omega
 refine aY.set h h1 h2 ku ?_ (fun k hk=>lz w r _ k hk) (my w r _) rfl rfl;have hb:=BR.cells (ρ:=ρ) s' ty g (c.toList.take (off+0)++vs++c.toList.drop (off+0+vs.length)).toArray lo hi (by rw[hcs,qf];omega) ?_ (by rw[hcs];rw[e2]at e5;exact e5) (h.Nh h1 h2 e1)
 ·rw[hcs]at hb;exact hb
 ·have:=w2;rw[qf,this]
  have e:(c.toList.take (off+0)++vs++c.toList.drop (off+0+vs.length)).toArray.toList.take s.length=(c.toList.take s.length).take off++(vs++(c.toList.take s.length).drop (off+t.length)):=by
   simp only[ahC,agv,hlen];rw[ahR,ahR,agV,agV,Nat.min_comm off s.length,agk (l:=vs) (by simp;omega)];rw[ahs,agy,hlen,ahx (xs:=c),show s.length-min off c.size-t.length=s.length-(off+t.length) by omega]
  rw[e];exact(e4.take off).app (hv.app (e4.drop _))
abbrev Fr:=PT CV
inductive df where
 |tmp (p:Nat)
 |const (v:CV)
def dL (fr:Fr)(p:Nat):CV:=Option.rec .undef (fun v=>v) (fr.get p)
def ev (fr:Fr)(x:df):CV:=df.rec (fun p=>dL fr p) (fun v=>v) x
def FR (ρ:Ren)(fr:Fr)(tmps:Array Value):Prop:=∀t,VR ρ (dL fr (t)) (tmps.getD t Go.undef)
theorem FR.mono {ρ ρ':Ren}(hle:ρ.le ρ'){fr:Fr}{tmps:Array Value}(h:FR ρ fr tmps):FR ρ' fr tmps:=fun t=>(h t).mono hle
theorem iQ (fr:Fr)(p:Nat)(v:CV):dL (fr.put p (some v)) p=v:=by unfold dL;rw[PT.dF]
theorem iY (fr:Fr)(p q:Nat)(x:Option CV)(h:q≠p):dL (fr.put p x) q=dL fr q:=by unfold dL;rw[PT.dh _ _ _ _ h]
theorem FR.put {ρ:Ren}{fr:Fr}{tmps:Array Value}(h:FR ρ fr tmps){d:Nat}(hd:d<tmps.size){v:CV}{v':Value}(hv:VR ρ v v'):
 FR ρ (fr.put (d) (some v)) (tmps.setIfInBounds d v'):=by
 intro t
 by_cases e:t=d
 ·subst e;rw[iQ]
  simpa[hd]using hv
 ·rw[iY _ _ _ _ (fun e'=>e (e'))];have:(tmps.setIfInBounds d v').getD t Go.undef=tmps.getD t Go.undef:=by simp[agY (agZ e)]
  rw[this];exact h t
def fW (v:Value):Option CV:=
 match v with
 | .bool b=>some (.bool b)
 | .int k n=>some (.int k n)
 | .string s=>some (.str s.data.toList)
 | .pointer none=>some .aC
 | .slice none 0 0=>some .aa
 | .map none=>some .cD
 | .func fn f c=>bk (Bool.and f.isEmpty c.isEmpty) (some (.func fn .nil .nil)) none
 | .nilFunc=>some .iO
 | .nilIface=>some .cK
 | .tuple c=>bk c.isEmpty (some .undef) none
 |_=>none
theorem VR.fW {v:Value}{c:CV}(h:fW v=some c)(ρ:Ren):VR ρ c v:=by
 unfold Lim.fW at h
 split at h<;>try (cases h;done)
 ·cases h;exact .bool _
 ·cases h;exact .int _ _
 ·cases h;rename_i s;have:=VR.str (ρ:=ρ) s.data.toList;rw[uj]at this;exact this
 ·cases h;exact .aC
 ·cases h;exact .aa
 ·cases h;exact .cD
 ·rename_i fn f c;rw[aO]at h
  split at h
  ·rename_i hc;cases h;simp only[agp,Array.isEmpty_iff]at hc;rw[hc.1,hc.2];exact VR.func fn .nil .nil [] [] rfl rfl (fun i v v' h=>by simp at h) (fun i v v' h=>by simp at h)
  ·cases h
 ·cases h;exact .iO
 ·cases h;exact .cK
 ·rename_i c;rw[aO]at h
  split at h
  ·rename_i hc;cases h;simp only[Array.isEmpty_iff]at hc;rw[hc];exact .undef
  ·cases h
def lJ (l:List Value):Option (List CV):=
 List.rec (some .nil) (fun v _ r=>Option.rec none (fun r=>Option.rec none (fun c=>some (c.bL++r)) (fW v)) r) l
def ofValue (v:Value):Option CV:=
 match v with
 | .agg cs=>Option.rec none (fun s=>some (.agg s)) (lJ cs.toList)
 |v=>fW v
theorem vV {v:Value}{c:CV}(h:fW v=some c):∀s,c≠ .agg s:=by
 intro s e;subst e;unfold fW at h
 split at h<;>first|(cases h;done)|(rw[aO]at h;split at h<;>cases h)
theorem pb:∀(l:List Value) (s:List CV),lJ l=some s->∀ρ,cL ρ s l:=by
 intro l
 induction l with
 |nil=>intro s h ρ;cases h;exact cL.nil ρ
 |cons v l ih=>
  intro s h ρ;have e:lJ (v::l)=Option.rec none (fun r=>Option.rec none (fun c=>some (c.bL++r)) (fW v)) (lJ l):=rfl;rw[e]at h;cases hl:lJ l with
  |none=>rw[hl]at h;cases h
  |some r=>
   rw[hl]at h;cases hv:fW v with
   |none=>rw[hv]at h;cases h
   |some c=>
    rw[hv]at h;cases h;rw[xu (vV hv)];exact cL.cons (VR.fW hv ρ) (ih r hl ρ)
theorem VR.ofValue {v:Value}{c:CV}(h:ofValue v=some c)(ρ:Ren):VR ρ c v:=by
 unfold Lim.ofValue at h
 split at h
 ·rename_i cs;cases hc:lJ cs.toList with
  |none=>rw[hc]at h;cases h
  |some s=>
   rw[hc]at h;cases h;exact VR.wK (pb _ s hc ρ)
 ·exact VR.fW h ρ
def dv (x:Operand):Option df:=
 match x with
 | .tmp t=>some (.tmp (t))
 | .const v=>Option.rec none (fun c=>some (.const c)) (ofValue v)
 | .func f=>some (.const (.func (.func f) .nil .nil))
 | .global _=>none
theorem aZ {x:Operand}{c:df}(h:dv x=some c){ρ:Ren}{fr:Fr}{a:Act}(hf:FR ρ fr a.tmps):VR ρ (ev fr c) (a.eval x):=by
 cases x with
 |tmp t=>cases h;exact hf t
 |const v=>
  have e:dv (.const v)=Option.rec none (fun c=>some (.const c)) (ofValue v):=rfl;rw[e]at h;cases hv:ofValue v with
  |none=>rw[hv]at h;cases h
  |some c'=>rw[hv]at h;cases h;exact VR.ofValue hv ρ
 |func f=>cases h;exact VR.func _ .nil .nil [] [] rfl rfl (fun i v v' h=>by simp at h) (fun i v v' h=>by simp at h)
 |global g=>cases h
inductive OR where
 |ok (v:CV) (st:St)
 |bad
def bh (P:Program)(s:Sem Value)(ρ:Ren)(st:St)(w:World)(v:CV)(st':St):Prop:=
 ∃v' w' ρ',s.run P w= .ok v' w'/\VR ρ' v v'/\aY ρ st w ρ' st' w'
def u9 (P:Program)(s:Sem Unit)(ρ:Ren)(st:St)(w:World)(v:CV)(st':St):Prop:=
 ∃w' ρ',s.run P w= .ok () w'/\v= .undef/\aY ρ st w ρ' st' w'
def Af (P:Program)(s:Sem Next)(ρ:Ren)(st:St)(w:World)(v:CV)(st':St):Prop:=
 ∃x v' w' ρ',s.run P w= .ok x w'/\(x= .value v'\/(x= .skip/\v'=Go.undef))/\VR ρ' v v'/\aY ρ st w ρ' st' w'
section
variable {P:Program} {ρ:Ren} {st st':St} {w:World} {v:CV}
theorem bh.still {s:Sem Value}{v':Value}(hw:WR ρ st w)(h:s.run P w= .ok v' w)(hv:VR ρ v v'):bh P s ρ st w v st:=⟨v',w,ρ,h,hv,aY.refl hw⟩
theorem bh.fa {s:Sem Value}(h:bh P s ρ st w v st'):Af P (do pure (Next.value (<-s))) ρ st w v st':=by
 obtain⟨v',w',ρ',h1,h2,h3⟩:=h;exact⟨.value v',v',w',ρ',by simp[h1], .inl rfl,h2,h3⟩
theorem u9.fa {s:Sem Unit}(h:u9 P s ρ st w v st'):Af P (do s;pure Next.skip) ρ st w v st':=by
 obtain⟨w',ρ',h1,rfl,h3⟩:=h;exact⟨.skip,Go.undef,w',ρ',by simp[h1], .inr ⟨rfl,rfl⟩, .undef,h3⟩
def aK (c a b:CV)(st:St):OR:=match c with| .bool t=>bk t (.ok a st) (.ok b st)|_=> .bad
theorem xH {c a b:CV}{c' a' b':Value}(h:aK c a b st= .ok v st')(hw:WR ρ st w)(hc:VR ρ c c')(ha:VR ρ a a')(hb:VR ρ b b'):
 Af P (do pure (Next.value (if<-asBool c' then a' else b'))) ρ st w v st':=by
 unfold aK at h
 split at h
 ·rename_i t;cases hc;cases t with
  |true=>cases h;exact⟨_,a',w,ρ,by simp[asBool], .inl rfl,ha,aY.refl hw⟩
  |false=>cases h;exact⟨_,b',w,ρ,by simp[asBool], .inl rfl,hb,aY.refl hw⟩
 ·cases h
theorem aY.newRow {s:List CV}{l:List Value}{t:TypeId}(hw:WR ρ st w)(hs:∀ρ',ρ.le ρ'->cL ρ' s l)(g:Bool):
 ∃ρ',(newRow t l.toArray).run P w= .ok ⟨w.heap.size,0,none⟩ {w with heap:=w.heap.push (.cells l.toArray t)}/\
  ρ' st.next=some (w.heap.size,l.length)/\aY ρ st w ρ' (st.new (.cells s t g)) {w with heap:=w.heap.push (.cells l.toArray t)}:=by
 have iJ:∀b x,ρ b=some x->b≠st.next:=fun b x hx e=>by have:=hw.fresh b x hx;rw[e]at this;omega
 have hle:ρ.le (ρ.set st.next (w.heap.size,l.length)):=fun b _ hr=>by rw[Ren.bX _ _ _ _ (iJ b _ hr)];exact hr
 have hv:=hs _ hle;have hlen:s.length=l.length:=by rw[hv.len]
 have hb:=BR.cells (ρ:=ρ.set st.next (w.heap.size,l.length)) s t g l.toArray 0 0 (by simp[hlen]) (by
  rw[hlen];simpa using hv) (by omega) (by intros;omega)
 have ha:=aY.new hw (blk:= .cells s t g) (o:= .cells l.toArray t) (sz:=l.length) (by simpa using hb);exact⟨_,rfl,ha.2,ha.1⟩
def dd (t:TypeId)(s:List CV)(st:St):OR:= .ok (.ptr st.next 0) ⟨st.mem.put st.next (some (.cells s t false)),st.next+1⟩
theorem Ay (t:TypeId)(s:List CV)(st:St):dd t s st= .ok (.ptr st.next 0) (st.new (.cells s t false)):=by
 rfl
theorem vU {t:TypeId}{z:List CV}{i:TypeInfo}{z':Value}(h:dd t z st= .ok v st')(hw:WR ρ st w)(hi:P.info? t=some i)(hz:i.zero=some z')
 (hc:∀ρ,cL ρ z z'.cells.toList):bh P (Instr.alloc t true (.tuple #[])) ρ st w v st':=by
 rw[Ay]at h;cases h;obtain⟨ρ',h1,h2,h3⟩:=aY.newRow (P:=P) (t:=t) hw (fun ρ' _=>hc ρ') false;rw[ahi]at h1 h3;refine⟨.pointer (some ⟨w.heap.size,0,none⟩),_,ρ', ?_, .ptr _ _ _ _ h2,h3⟩;simp[Instr.alloc,zeroValue,typeInfo,hi,hz,newVar,h1]
theorem zF {t:TypeId}{x:CV}{x':Value}(h:bk x.isAny .bad (dd t x.bL st)= .ok v st')(hw:WR ρ st w)(hx:VR ρ x x'):
 bh P (Instr.box t x') ρ st w v st':=by
 rw[aO]at h
 split at h
 ·cases h
 rename_i Oj;rw[Ay]at h;cases h;obtain⟨ρ',h1,h2,h3⟩:=aY.newRow (P:=P) (t:=t) hw (fun ρ' hle=>(hx.mono hle).bL (by simpa using Oj)) false;rw[ahi]at h1 h3;refine⟨.pointer (some ⟨w.heap.size,0,none⟩),_,ρ', ?_, .ptr _ _ _ _ h2,h3⟩;simp[Instr.box,newVar,h1]
def aw (p:CV)(st:St):OR:=
 match p with
 | .ptr b off=>(match st.mem.get b with
   |some (.cells s _ _)=>Option.rec .bad (fun v=> .ok v st) (s[off]?)
   |some (.ro s _)=>Option.rec .bad (fun v=> .ok v st) (s[off]?)
   |_=> .bad)
 |_=> .bad
def aP (n:Nat)(p:CV)(st:St):OR:=
 match p with
 | .ptr b off=>(match st.mem.get b with
   |some (.cells s _ _)=>Option.rec .bad (fun v=> .ok (.agg v) st) (fG s off n)
   |some (.ro s _)=>Option.rec .bad (fun v=> .ok (.agg v) st) (fG s off n)
   |_=> .bad)
 |_=> .bad
theorem ng {s:List CV}{l:List Value}(h:cL ρ s l){off:Nat}{x:CV}(hx:s[off]?=some x):∃x',l[off]?=some x'/\VR ρ x x':=by
 exact h.get hx
theorem oM {l:List Value}{n i:Nat}{x:Value}(h:(l.take n)[i]?=some x):l[i]?=some x:=by
 rw[ahn]at h;split at h
 ·exact h
 ·cases h
theorem vL {t:TypeId}{p:CV}{p':Value}(h:aw p st= .ok v st')(hw:WR ρ st w)(hp:VR ρ p p')(ht:(isAgg t).run P w= .ok false w):
 bh P (Instr.loadAt t p') ρ st w v st':=by
 unfold aw at h
 split at h
 ·rename_i b off
  split at h
  ·rename_i s t' g hm;cases hx:s[off]? with
   |none=>rw[hx]at h;cases h
   |some x=>
    rw[hx]at h;cases h;cases hp with
    |ptr _ _ r sz hr=>
     obtain⟨c,lo,hi,e1,e2,e3,e4,e5⟩:=hw.row hm hr;obtain⟨x',g1,g2⟩:=ng e4 hx;refine bh.still hw ?_ g2;simp[Instr.loadAt,Instr.sureAddr,loadVar,ht,ju P w r off c t' (lo,hi) x' e1 (oM g1),-run_load]
  ·rename_i s o0 hm;cases hx:s[off]? with
   |none=>rw[hx]at h;cases h
   |some x=>
    rw[hx]at h;cases h;cases hp with
    |ptr _ _ r sz hr=>
     obtain⟨c,t',lo,hi,e1,e2,e3,e4⟩:=hw.Dr hm hr;obtain⟨x',g1,g2⟩:=ng e4 hx;refine bh.still hw ?_ g2;simp[Instr.loadAt,Instr.sureAddr,loadVar,ht,ju P w r off c t' (lo,hi) x' e1 (oM g1),-run_load]
  ·cases h
 ·cases h
theorem vK {t:TypeId}{n:Nat}{p:CV}{p':Value}(h:aP n p st= .ok v st')(hw:WR ρ st w)(hp:VR ρ p p')(ht:(isAgg t).run P w= .ok true w)
 (hn:(Go.sizeOf t).run P w= .ok n w):bh P (Instr.loadAt t p') ρ st w v st':=by
 unfold aP at h
 split at h
 ·rename_i b off
  split at h
  ·rename_i s t' g hm;cases hx:fG s off n with
   |none=>rw[hx]at h;cases h
   |some x=>
    rw[hx]at h;cases h;cases hp with
    |ptr _ _ r sz hr=>
     obtain⟨c,lo,hi,e1,e2,e3,e4,e5⟩:=hw.row hm hr;obtain⟨g1,g2⟩:=gu hx;refine bh.still hw (v':= .agg ((c.toList.drop off).take n).toArray) ?_ (VR.wK ?_)
     ·simp[Instr.loadAt,Instr.sureAddr,loadVar,ht,hn,cZ P w r off n c t' (lo,hi) e1 (by omega)]
     ·rw[show x=(s.drop off).take n from g2]
      have e:(c.toList.drop off).take n=((c.toList.take s.length).drop off).take n:=by
       rw[ahs,agV,agD (by omega)]
      rw[e];exact(e4.drop off).take n
  ·rename_i s o0 hm;cases hx:fG s off n with
   |none=>rw[hx]at h;cases h
   |some x=>
    rw[hx]at h;cases h;cases hp with
    |ptr _ _ r sz hr=>
     obtain⟨c,t',lo,hi,e1,e2,e3,e4⟩:=hw.Dr hm hr;obtain⟨g1,g2⟩:=gu hx;refine bh.still hw (v':= .agg ((c.toList.drop off).take n).toArray) ?_ (VR.wK ?_)
     ·simp[Instr.loadAt,Instr.sureAddr,loadVar,ht,hn,cZ P w r off n c t' (lo,hi) e1 (by omega)]
     ·rw[show x=(s.drop off).take n from g2]
      have e:(c.toList.drop off).take n=((c.toList.take s.length).drop off).take n:=by
       rw[ahs,agV,agD (by omega)]
      rw[e];exact(e4.drop off).take n
  ·cases h
 ·cases h
def aT (n:Nat)(p x:CV)(st:St):OR:=
 match p with
 | .ptr b off=>(match st.mem.get b with
   |some (.cells s t g)=>(fun xs=>bk (Bool.and (Nat.beq xs.length n) (bu xs)) (Option.rec .bad (fun s'=> .ok .undef ⟨st.mem.put b (some (.cells s' t g)),st.next⟩) (dM s off xs)) .bad) x.bL
   |_=> .bad)
 |_=> .bad
theorem vI {t:TypeId}{n:Nat}{p x:CV}{p' x':Value}(h:aT n p x st= .ok v st')(hw:WR ρ st w)(hp:VR ρ p p')(hx:VR ρ x x')
 (hn:(Go.sizeOf t).run P w= .ok n w):u9 P (Instr.storeAt t p' x') ρ st w v st':=by
 unfold aT at h
 split at h
 ·rename_i b off
  split at h
  ·rename_i s t' g hm;simp only[aO,agp,agA]at h
   split at h
   ·rename_i hc;cases hs:dM s off x.bL with
    |none=>rw[hs]at h;cases h
    |some s'=>
     rw[hs]at h;cases h;cases hp with
     |ptr _ _ r sz hr=>
      obtain⟨w',h1,h2⟩:=aY.write (P:=P) hw hm hr hs (hx.bL (uE hc.2)) hc.2;refine⟨w',ρ, ?_,rfl,h2⟩;have hl:x'.cells.size=n:=by have:=(hx.bL (uE hc.2)).len;rw[hc.1]at this;simpa using this.symm
      simp[Instr.storeAt,Instr.sureAddr,storeVar,hn,hl,h1]
   ·cases h
  ·cases h
 ·cases h
def cz (x:CV)(st:St):OR:=match x with| .ptr .. | .iface .. | .func (.func _) _ _=> .ok x st|_=> .bad
theorem zA {x:CV}{x':Value}(h:cz x st= .ok v st')(hw:WR ρ st w)(hx:VR ρ x x'){o:Oper}{y:Operand}{f:Operand->Value}(ho:o.op= .nilCheck y)(hy:f y=x'):
 Af P (execOp f o) ρ st w v st':=by
 unfold cz at h
 have key:∀{z:Value},f y=z->(match z with| .pointer none| .nilIface| .nilFunc| .func (.method _) _ _=>False|_=>True)->(execOp f o).run P w= .ok (.value z) w:=by
  intro z hz hn;unfold execOp;rw[ho];simp only[hz]
  split<;>first|(exact hn.elim)|rfl
 split at h
 ·cases h;cases hx with|ptr _ _ _ _ hr=>exact⟨_,_,w,ρ,key hy trivial, .inl rfl, .ptr _ _ _ _ hr,aY.refl hw⟩
 ·cases h;cases hx with|iface _ _ _ hr=>exact⟨_,_,w,ρ,key hy trivial, .inl rfl, .iface _ _ _ hr,aY.refl hw⟩
 ·cases h;have wj:=hx;cases hx with|func _ _ _ f' c' hf hc h1 h2=>exact⟨_,_,w,ρ,key hy trivial, .inl rfl,wj,aY.refl hw⟩
 ·cases h
def aB (x:CV)(i:Nat)(st:St):OR:=match x with| .tuple s=>Option.rec .bad (fun v=> .ok v st) (s[i]?)|_=> .bad
theorem rV {x:CV}{x':Value}{i:Nat}(h:aB x i st= .ok v st')(hw:WR ρ st w)(hx:VR ρ x x'):bh P (Instr.extract x' i) ρ st w v st':=by
 unfold aB at h
 split at h
 ·rename_i s;cases hs:s[i]? with
  |none=>rw[hs]at h;cases h
  |some y=>
   rw[hs]at h;cases h;cases hx with
   |tuple _ l hl hh=>
    obtain⟨y',g1,g2⟩:=ng (ρ:=ρ) (s:=s) ⟨hl,hh⟩ hs;refine bh.still hw ?_ g2;simp[Instr.extract,g1]
 ·cases h
end
mutual
inductive gH where
 |bool|int|str|ptr|iface|slice|map|func
 |bytes (len:Nat)
 |struct (fs:Jw)
 |array (len size:Nat) (agg:Bool) (e:gH)
inductive Jw where
 |nil
 |cons (off size:Nat) (agg:Bool) (d:gH) (r:Jw)
end
def Gi (v:CV):Option UInt8:=match v with| .int .u8 (.ofNat n)=>if n<256 then some (.ofNat n)else none|_=>none
def yN:List CV->Option (List UInt8)
 |[]=>some []
 |v::r=>match Gi v,yN r with|some b,some l=>some (b::l)|_,_=>none
theorem zc (b:UInt8):Gi (bo b)=some b:=by
 have h:b.toNat<256:=b.toNat_lt;show(if b.toNat<256 then some (UInt8.ofNat b.toNat)else none)=some b;rw[agl h];simp
theorem vf (l:List UInt8):yN (l.map bo)=some l:=by
 induction l with
 |nil=>rfl
 |cons b l ih=>simp[yN,zc,ih]
theorem Bk {v:CV}{b:UInt8}(h:Gi v=some b):v=bo b:=by
 unfold Gi at h
 split at h
 ·rename_i n
  split at h
  ·rename_i hn;cases h;show CV.int .u8 (.ofNat n)= .int .u8 (.ofNat (UInt8.ofNat n).toNat);rw[UInt8.toNat_ofNat',ahv (by omega)]
  ·cases h
 ·cases h
theorem oL:∀{s:List CV} {l:List UInt8},yN s=some l->s=l.map bo:=by
 intro s
 induction s with
 |nil=>intro l h;cases h;rfl
 |cons v r ih=>
  intro l h;simp only[yN]at h
  split at h
  ·rename_i b l' h1 h2;cases h;rw[agH,Bk h1,<-ih h2]
  ·cases h
def fQ (agg:Bool)(off size:Nat)(s:List CV):Option CV:=
 bk agg (Option.rec none (fun t=>some (.agg t)) (fG s off size)) (s[off]?)
def andThen (a:Option Bool)(b:Option Bool):Option Bool:=Option.rec none (fun t=>bk t b (some false)) a
mutual
def jx:gH->CV->CV->Option Bool
 | .bool,x,y=>(match x,y with| .bool a, .bool b=>some (a==b)|_,_=>none)
 | .int,x,y=>(match x,y with| .int j a, .int k b=>bk (decide (j=k)) (some (decide (a=b))) none|_,_=>none)
 | .str,x,y=>(match x,y with| .str a, .str b=>some (a==b)|_,_=>none)
 | .ptr,x,y=>(match x,y with
   | .aC, .aC=>some true
   | .aC, .ptr _ _=>some false
   | .ptr _ _, .aC=>some false
   | .ptr b o, .ptr b' o'=>bk (decide (b=b')) (some (Nat.beq o o')) none
   |_,_=>none)
 | .iface,x,y=>(match x,y with
   | .cK, .cK=>some true
   | .cK, .iface _ _=>some false
   | .iface _ _, .cK=>some false
   |_,_=>none)
 | .slice,x,y=>(match x,y with
   | .aa, .aa=>some true
   | .aa, .slice .. =>some false
   | .slice .., .aa=>some false
   |_,_=>none)
 | .map,x,y=>(match x,y with
   | .cD, .cD=>some true
   | .cD, .map _=>some false
   | .map _, .cD=>some false
   |_,_=>none)
 | .func,x,y=>(match x,y with
   | .iO, .iO=>some true
   | .iO, .func .. =>some false
   | .func .., .iO=>some false
   |_,_=>none)
 | .bytes len,x,y=>(match x,y with
   | .agg s, .agg t=>(match yN s,yN t with|some a,some b=>bk (decide (a.length=len)&&decide (b.length=len)) (some (a==b)) none|_,_=>none)
   |_,_=>none)
 | .struct fs,x,y=>(match x,y with| .agg s, .agg t=>wE fs s t|_,_=>none)
 | .array len size agg e,x,y=>(match x,y with
   | .agg s, .agg t=>Nat.rec (motive:=fun _=>Nat->Option Bool) (fun _=>some true)
    (fun _ ih off=>Option.rec none (fun a=>Option.rec none (fun b=>andThen (jx e a b) (ih (Nat.add off size))) (fQ agg off size t)) (fQ agg off size s)) len 0
   |_,_=>none)
def wE:Jw->List CV->List CV->Option Bool
 | .nil,_,_=>some true
 | .cons off size agg d r,s,t=>Option.rec none (fun a=>Option.rec none (fun b=>andThen (jx d a b) (wE r s t)) (fQ agg off size t)) (fQ agg off size s)
end
def fj (u:TypeDesc):Bool:=match u with| .struct _| .array _ _=>true|_=>false
def kb (P:Program)(desc:TypeId->Option gH)(fs:List Field):Option Jw:=
 match fs with
 |[]=>some .nil
 |f::r=>
  match decide (f.name= "_"),P.info? f.type,(P.underlying f.type),desc f.type,kb P desc r with
  |false,some i,some u,some d,some r=>some (.cons f.offset i.size (fj u) d r)
  |_,_,_,_,_=>none
def eh (P:Program):Nat->TypeId->Option gH
 |0,_=>none
 |n+1,t=>
  match P.underlying t with
  |some .bool=>some .bool
  |some (.int _)=>some .int
  |some .string=>some .str
  |some (.pointer e)=>(match P.info? e with|some i=>bk (Nat.beq i.size 0) none (some .ptr)|none=>none)
  |some (.interface _)=>some .iface
  |some (.slice _)=>some .slice
  |some (.map _ _)=>some .map
  |some (.func _ _ _)=>some .func
  |some (.struct fs)=>bk (P.stoodInHeld t) none (match kb P (eh P n) fs.toList with|some l=>some (.struct l)|none=>none)
  |some (.array len e)=>
   (match P.info? e,P.underlying e with
   |some i,some (.int .u8)=>bk (Nat.beq i.size 1) (some (.bytes len)) none
   |some i,some u=>(match eh P n e with|some d=>some (.array len i.size (fj u) d)|none=>none)
   |_,_=>none)
  |_=>none
section
variable {P:Program} {ρ:Ren} {w:World}
theorem fv {agg:Bool}{off size:Nat}{s:List CV}{x:CV}(h:fQ agg off size s=some x){l:List Value}(hs:cL ρ s l){t:TypeId}{i:TypeInfo}{u:TypeDesc}
 (hi:P.info? t=some i) (hn:i.size=size) (hu:P.underlying t=some u) (ha:(fj u)=agg):
 ∃x',(part t l.toArray off).run P w= .ok x' w/\VR ρ x x':=by
 have h1:(isAgg t).run P w= .ok agg w:=by
  subst ha;cases u<;>simp[isAgg,agd hu,fj]
 unfold fQ at h;rw[aO]at h
 split at h
 ·rename_i hb;cases he:fG s off size with
  |none=>rw[he]at h;cases h
  |some y=>
   rw[he]at h;cases h;obtain⟨g1,g2⟩:=gu he;refine⟨.agg ((l.drop off).take size).toArray, ?_,VR.wK ?_⟩
   ·simp[part,h1,hb,Go.sizeOf,typeInfo,hi,hn]
   ·rw[show y=(s.drop off).take size from g2];exact(hs.drop off).take size
 ·rename_i hb;obtain⟨x',g1,g2⟩:=ng hs h;have ig:agg=false:=by simpa using hb
  exact⟨x',by simp[part,h1,ig,g1],g2⟩
theorem VR.nu {l:List UInt8}{x':Value}(h:VR ρ (.agg (l.map bo)) x'):x'= .agg (l.map Extern.Stop.cell).toArray:=by
 cases h with
 |agg s m hl hh=>
  congr 2
  apply ahL;intro i;simp only[agM]at hl
  by_cases hi:i<l.length
  ·have h2:=hh i _ m[i] (by rw[agB,agh hi];rfl) (by simp);cases Vu:m[i]with
   |int k q=>
    rw[Vu]at h2;cases h2;rw[agB,agh hi,agh (by omega),Vu];rfl
   |_=>rw[Vu]at h2;cases h2
  ·rw[agL (by omega),agL (by simp;omega)]
def wM (P:Program)(w:World)(ρ:Ren)(d:gH)(t:TypeId)(n:Nat):Prop:=
 ∀(x y:CV) (x' y':Value) (b:Bool),jx d x y=some b->VR ρ x x'->VR ρ y y'->(Op.equalIn n t x' y').run P w= .ok b w
theorem z8 (len size:Nat)(agg:Bool)(e:gH){t:TypeId}{i:TypeInfo}{u:TypeDesc}{n:Nat}(hi:P.info? t=some i)(hn:i.size=size)(hu:P.underlying t=some u)
 (ha:(fj u)=agg) (hf:wM P w ρ e t n) {s s2:List CV} {l l2:List Value} (h1:cL ρ s l) (h2:cL ρ (row s2) l2):
 ∀(j:Nat) (b:Bool),Nat.rec (motive:=fun _=>Nat->Option Bool) (fun _=>some true)
  (fun _ ih off=>Option.rec none (fun a=>Option.rec none (fun b=>andThen (jx e a b) (ih (Nat.add off size))) (fQ agg off size s2)) (fQ agg off size s)) len (j*size)=some b->
  (Op.eqItems n t size l.toArray l2.toArray (List.range' j len)).run P w= .ok b w:=by
 induction len with
 |zero=>intro j b h;cases h;simp[Op.eqItems]
 |succ len ih=>
  intro j b h;rw[List.range'_succ];simp only at h;cases hx:fQ agg (j*size) size s with
  |none=>rw[hx]at h;cases h
  |some x=>
   cases hy:fQ agg (j*size) size s2 with
   |none=>rw[hx,hy]at h;cases h
   |some y=>
    rw[hx,hy]at h;simp only at h;cases hq:jx e x y with
    |none=>rw[hq]at h;cases h
    |some q=>
     rw[hq]at h;obtain⟨x',p1,v1⟩:=fv (P:=P) (w:=w) hx h1 hi hn hu ha;obtain⟨y',p2,v2⟩:=fv (P:=P) (w:=w) hy h2 hi hn hu ha;have hr:=hf x y x' y' q hq v1 v2;simp only[Op.eqItems,Sem.run_bind,p1,p2,hr,Result.andThen_ok];cases q with
     |false=>cases h;simp
     |true=>
      have:=ih (j+1) b (by rw[ahm,ahW];exact h)
      simpa using this
theorem z7 {n:Nat}{desc:TypeId->Option gH}(hf:∀t d,desc t=some d->wM P w ρ d t n){s s2:List CV}{l l2:List Value}(h1:cL ρ s l)(h2:cL ρ (row s2) l2):
 ∀(fs:List Field) (r:Jw) (b:Bool),kb P desc fs=some r->wE r s s2=some b->(Op.eqFields n l.toArray l2.toArray fs).run P w= .ok b w:=by
 intro fs
 induction fs with
 |nil=>intro r b h hb;cases h;simp only[wE,ahq]at hb;subst hb;simp[Op.eqFields]
 |cons f fs ih=>
  intro r b h hb;simp only[kb]at h
  split at h
  ·rename_i i u d r' iJ hi hu hd hr;cases h;have T7:f.name≠ "_" :=by simpa using iJ
   simp only[wE]at hb;cases hx:fQ (fj u) f.offset i.size s with
   |none=>rw[hx]at hb;cases hb
   |some x=>
    cases hy:fQ (fj u) f.offset i.size s2 with
    |none=>rw[hx,hy]at hb;cases hb
    |some y=>
     rw[hx,hy]at hb;simp only at hb;cases hq:jx d x y with
     |none=>rw[hq]at hb;cases hb
     |some q=>
      rw[hq]at hb;obtain⟨x',p1,v1⟩:=fv (P:=P) (w:=w) hx h1 hi rfl hu rfl;obtain⟨y',p2,v2⟩:=fv (P:=P) (w:=w) hy h2 hi rfl hu rfl;have ie:=hf f.type d hd x y x' y' q hq v1 v2;simp only[Op.eqFields,T7,ne_eq,not_false_eq_true,ags,Sem.run_bind,p1,p2,ie,Result.andThen_ok];cases q with
      |false=>cases hb;simp
      |true=>simpa using ih r' b hr hb
  ·cases h
theorem E6:∀(f:Nat) (t:TypeId) (d:gH),eh P f t=some d->∀n,f<n->wM P w ρ d t n:=by
 intro f
 induction f with
 |zero=>intro t d h;cases h
 |succ f ih=>
  intro t d h n hn x y x' y' b hb hx hy;obtain⟨m,rfl⟩:∃m,n=m+1:=⟨n-1,by omega⟩;simp only[eh]at h
  split at h
  ·
    rename_i hu;cases h;simp only[jx]at hb
    split at hb
    ·cases hx;cases hy;cases hb;rename_i a b;rw[run_equalIn_bool' w m t a b hu]
    ·cases hb
  ·rename_i k hu;cases h;simp only[jx]at hb
   split at hb
   ·rw[aO]at hb
    split at hb
    ·rename_i hk;rw[xV]at hk;subst hk;cases hx;cases hy;cases hb;rw[run_equalIn_int w m t _ _ _ _ hu];rfl
    ·cases hb
   ·cases hb
  ·rename_i hu;cases h;simp only[jx]at hb
   split at hb
   ·cases hx;cases hy;cases hb;rename_i a b;rw[run_equalIn_string w m t _ _ hu]
    congr 1
    rw[ahX,beq_iff_eq,beq_iff_eq,ByteArray.toList_eq,ByteArray.toList_eq];simp[fe]
   ·cases hb
  ·rename_i e hu
   split at h
   ·rename_i i hi;rw[aO]at h
    split at h
    ·cases h
    ·rename_i hz;cases h;have hz':i.size≠0:=by simpa using hz
     have hs:(Go.sizeOf e).run P w= .ok i.size w:=by simp[Go.sizeOf,typeInfo,hi]
     simp only[jx]at hb
     split at hb
     ·cases hx;cases hy;cases hb;simp[Op.equalIn,agd hu]
     ·cases hx;cases hy;cases hb;simp[Op.equalIn,agd hu]
     ·cases hx;cases hy;cases hb;simp[Op.equalIn,agd hu]
     ·rename_i b1 o1 b2 o2;rw[aO]at hb
      split at hb
      ·rename_i hq;simp only[ahB]at hq;subst hq
       cases hx with|ptr _ _ r sz hr=>cases hy with|ptr _ _ r2 sz2 hr2=>
        rw[hr]at hr2;cases hr2;cases hb
        have e:((⟨r,o1,none⟩:Addr)==⟨r,o2,none⟩)=Nat.beq o1 o2:=by
         rw[ahX,beq_iff_eq,agA];simp
        simp[Op.equalIn,agd hu,hs,hz',sameAddr,e]
      ·cases hb
     ·cases hb
   ·cases h
  ·rename_i ms hu;cases h;simp only[jx]at hb
   split at hb
   ·cases hx;cases hy;cases hb;simp[Op.equalIn,agd hu]
   ·cases hx;cases hy;cases hb;simp[Op.equalIn,agd hu]
   ·cases hx;cases hy;cases hb;simp[Op.equalIn,agd hu]
   ·cases hb
  ·rename_i e hu;cases h;simp only[jx]at hb
   split at hb
   ·cases hx;cases hy;cases hb;simp[Op.equalIn,agd hu]
   ·cases hx;cases hy<;>cases hb<;>simp[Op.equalIn,agd hu]
   ·cases hy;cases hx<;>cases hb<;>simp[Op.equalIn,agd hu]
   ·cases hb
  ·rename_i k e hu;cases h;simp only[jx]at hb
   split at hb
   ·cases hx;cases hy;cases hb;simp[Op.equalIn,agd hu]
   ·cases hx;cases hy;cases hb;simp[Op.equalIn,agd hu]
   ·cases hx;cases hy;cases hb;simp[Op.equalIn,agd hu]
   ·cases hb
  ·rename_i ps rs vv hu;cases h;simp only[jx]at hb
   split at hb
   ·cases hx;cases hy;cases hb;simp[Op.equalIn,agd hu]
   ·cases hx;cases hy;cases hb;simp[Op.equalIn,agd hu]
   ·cases hx;cases hy;cases hb;simp[Op.equalIn,agd hu]
   ·cases hb
  ·
    rename_i fs hu;rw[aO]at h
    split at h
    ·cases h
    ·rename_i kQ;have Tr:P.stoodInHeld t=false:=by simpa using kQ
     split at h
     ·rename_i l hl;cases h;simp only[jx]at hb
      split at hb
      ·rename_i s1 s2
       cases hx with|agg _ l1 hl1 UN=>cases hy with|agg _ l2 hl2 OI=>
        have XV:P.fieldsOf t=fs:=by simp[Program.fieldsOf,hu]
        rw[run_equalIn_agg w m t _ _ (by rw[XV];exact hu) Tr,XV];exact z7 (fun t' d' hd=>ih t' d' hd m (by omega)) ⟨hl1,UN⟩ ⟨hl2,OI⟩ fs.toList l b hl hb
      ·cases hb
     ·cases h
  ·
    rename_i len e hu
    split at h
    ·rename_i i hi Cy;rw[aO]at h
     split at h
     ·rename_i h1;rw[agA]at h1;cases h;simp only[jx]at hb
      split at hb
      ·rename_i s1 s2
       split at hb
       ·rename_i a b2 ha hb2;rw[aO]at hb
        split at hb
        ·rename_i hq;simp only[agp,ahB]at hq;obtain⟨q1,q2⟩:=hq;cases hb;have e1:=oL ha;have e2:=oL hb2;subst e1;subst e2;rw[hx.nu,hy.nu];obtain⟨m',rfl⟩:∃m',m=m'+1:=⟨m-1,by omega⟩;rw[run_equalIn_bytes w m' t e _ hu Cy (fun w=>by simp[Go.sizeOf,typeInfo,hi,h1]) _ _ q1 q2]
        ·cases hb
       ·cases hb
      ·cases hb
     ·cases h
    ·rename_i i u iJ hi Cy
     split at h
     ·rename_i d' hd;cases h;simp only[jx]at hb
      split at hb
      ·rename_i s1 s2
       cases hx with|agg _ l1 hl1 UN=>cases hy with|agg _ l2 hl2 OI=>
        rw[run_equalIn_array w m _ _ hu hi,List.range_eq_range'];have hcs:P.cellsOf e=i.size:=by simp[Program.cellsOf,hi]
        rw[hcs];have:=z8 (P:=P) (w:=w) (ρ:=ρ) len i.size _ d' hi rfl Cy rfl (ih e d' hd m (by omega)) (s:=s1) (s2:=s2) (l:=l1) (l2:=l2) ⟨hl1,UN⟩ ⟨hl2,OI⟩ 0 b (by simpa using hb);exact this
      ·cases hb
     ·cases h
    ·cases h
  ·cases h
end
abbrev ri (k:IntKind)(st:St)(r:Nat):OR:= .ok (.int k (r:Int)) st
def iU (op:BinOp)(k:IntKind)(a b:Int)(st:St):OR:=
 match op with
 | .add=> .ok (.int k (k.wrap (a+b))) st
 | .sub=> .ok (.int k (k.wrap (a-b))) st
 | .mul=> .ok (.int k (k.wrap (a*b))) st
 | .quo=>if b=0 then .bad else .ok (.int k (k.wrap (Int.tdiv a b))) st
 | .rem=>if b=0 then .bad else .ok (.int k (Int.tmod a b)) st
 | .eql=> .ok (.bool (decide (a=b))) st
 | .neq=> .ok (.bool (!decide (a=b))) st
 | .lss=> .ok (.bool (decide (a<b))) st
 | .leq=> .ok (.bool (decide (a<=b))) st
 | .gtr=> .ok (.bool (decide (b<a))) st
 | .geq=> .ok (.bool (decide (b<=a))) st
 | .shl| .shr=> .bad
 |op=>(match gD op k a b with|some r=> .ok (.int k r) st|none=> .bad)
def ib (op:BinOp)(k:IntKind)(a:Int)(j:IntKind)(b:Int)(st:St):OR:=
 match op with
 | .shl=>if b<0 then .bad else .ok (.int k (k.wrap (a*2^(min b.toNat k.bits)))) st
 | .shr=>if b<0 then .bad else .ok (.int k (a.fdiv (2^(min b.toNat k.bits)))) st
 |op=>if k=j then iU op k a b st else .bad
section
variable {P:Program} {ρ:Ren} {st st':St} {w:World} {v:CV}
theorem rI (op:BinOp)(t:TypeId)(k:IntKind)(a b r:Int)(yP:op= .and\/op= .or\/op= .xor\/op= .andNot)(h:gD op k a b=some r):
 (binOp op t (.int k a) (.int k b)).run P w= .ok (.int k r) w:=by
 have:=qw P w op k a b r h;rcases yP with rfl|rfl|rfl|rfl<;>simpa[binOp]using this
theorem zD {op:BinOp}{t:TypeId}{k j:IntKind}{a b:Int}(h:ib op k a j b st= .ok v st')(hw:WR ρ st w):
 bh P (binOp op t (.int k a) (.int j b)) ρ st w v st':=by
 have fin:∀{s:Sem Value} {r:Int},s.run P w= .ok (.int k r) w->bh P s ρ st w (.int k r) st:=fun hr=>bh.still hw hr (.int _ _);have qi:∀{s:Sem Value} {r:Bool},s.run P w= .ok (.bool r) w->bh P s ρ st w (.bool r) st:=fun hr=>bh.still hw hr (.bool _);unfold ib at h
 split at h
 ·split at h
  ·cases h
  ·rename_i hb;cases h;refine fin ?_;simp[binOp,Op.shift,hb]
 ·split at h
  ·cases h
  ·rename_i hb;cases h;refine fin ?_;simp[binOp,Op.shift,hb]
 ·rename_i Qk Qj
  split at h
  ·rename_i hk;subst hk;unfold iU at h
   split at h
   ·cases h;exact fin (by simp[binOp,Op.intArith]<;>rfl)
   ·cases h;exact fin (by simp[binOp,Op.intArith]<;>rfl)
   ·cases h;exact fin (by simp[binOp,Op.intArith]<;>rfl)
   ·split at h
    ·cases h
    ·rename_i hz;cases h;exact fin (by simp[binOp,Op.intDiv,hz])
   ·split at h
    ·cases h
    ·rename_i hz;cases h;exact fin (by simp[binOp,Op.intDiv,hz])
   ·cases h;exact qi (by simp[binOp,Op.intCmp];rfl)
   ·cases h;exact qi (by simp[binOp,Op.intCmp,bne];rfl)
   ·cases h;exact qi (by simp only[binOp,Op.intCmp];first|rfl|(simp;done))
   ·cases h;exact qi (by simp only[binOp,Op.intCmp];first|rfl|(simp;done))
   ·cases h;exact qi (by simp only[binOp,Op.intCmp];first|rfl|(simp;done))
   ·cases h;exact qi (by simp only[binOp,Op.intCmp];first|rfl|(simp;done))
   ·cases h
   ·cases h
   ·split at h
    ·rename_i r hr;cases h;refine fin (rI _ t k a b r ?_ hr);cases op<;>simp_all[gD]
    ·cases h
  ·cases h
def mE (op:BinOp)(a b:List UInt8)(st:St):OR:=
 match op with
 | .add=>if a.length+b.length<=9223372036854775807 then .ok (.str (a++b)) st else .bad
 | .eql=> .ok (.bool (a==b)) st
 | .neq=> .ok (.bool (!(a==b))) st
 | .lss=> .ok (.bool (Op.bytesLess a b)) st
 | .leq=> .ok (.bool (Op.bytesLess a b||(a==b))) st
 | .gtr=> .ok (.bool (!(Op.bytesLess a b||(a==b)))) st
 | .geq=> .ok (.bool (!(Op.bytesLess a b))) st
 |_=> .bad
theorem xb (a b:List UInt8):fe a++fe b=fe (a++b):=by
 apply ByteArray.ext;show(_:ByteArray).data=_;simp[fe,ByteArray.data_append]
theorem gY (a:List UInt8):(fe a).toList=a:=by rw[ByteArray.toList_eq];simp[fe]
theorem zz {op:BinOp}{t:TypeId}{a b:List UInt8}(h:mE op a b st= .ok v st')(hw:WR ρ st w):
 bh P (binOp op t (.string (fe a)) (.string (fe b))) ρ st w v st':=by
 have qi:∀{s:Sem Value} {r:Bool},s.run P w= .ok (.bool r) w->bh P s ρ st w (.bool r) st:=fun hr=>bh.still hw hr (.bool _);unfold mE at h
 split at h
 ·split at h
  ·rename_i hle;cases h;refine bh.still hw (v':= .string (fe a++fe b)) ?_ (by rw[xb];exact .str _);have hm:IntKind.i64.max=9223372036854775807:=by decide
   have:¬((((fe a).size+(fe b).size:Nat):Int)>IntKind.i64.max):=by
    rw[hE,hE,hm];omega
   simp only[binOp,Op.stringOp];rw[agf this];rfl
  ·cases h
 ·cases h;exact qi (by simp[binOp,Op.stringOp,gY])
 ·cases h;exact qi (by simp[binOp,Op.stringOp,gY])
 ·cases h;exact qi (by simp[binOp,Op.stringOp,gY])
 ·cases h;exact qi (by simp[binOp,Op.stringOp,gY])
 ·cases h;exact qi (by simp[binOp,Op.stringOp,gY])
 ·cases h;exact qi (by simp[binOp,Op.stringOp,gY])
 ·cases h
def Cp (d:gH)(tk:Bool)(x y:CV):Option Bool:=match x,y with| .cK, .cK=>bk tk (jx d x y) none|_,_=>jx d x y
def yE (d:gH):Bool:=match d with| .bytes _| .struct _| .array .. =>true|_=>false
def Mc (op:BinOp)(d:gH)(tk:Bool)(x y:CV)(st:St):OR:=
 match op,Cp d tk x y with
 | .eql,some b=> .ok (.bool b) st
 | .neq,some b=> .ok (.bool (!b)) st
 |_,_=> .bad
def oZ (op:BinOp)(k:IntKind)(a:Int)(m:Nat)(st:St):OR:=
 match op,k with
 | .gtr, .i64=>bk (decide ((m:Int)<a)) .bad (.ok (.bool false) st)
 |_,_=> .bad
def ai (op:BinOp)(d:Option gH)(tk:Bool)(x y:CV)(st:St):OR:=
 match x,y with
 | .int k a, .int j b=>ib op k a j b st
 | .str a, .str b=>mE op a b st
 | .int k a, .gy m=>oZ op k a m st
 | .gy _,_=> .bad
 |_, .gy _=> .bad
 | .any,_=> .bad
 |_, .any=> .bad
 |x,y=>(match d with|some d=>Mc op d tk x y st|none=> .bad)
def Bb (x y:Operand):Bool:=(match x with| .const _=>true|_=>false)||(match y with| .const _=>true|_=>false)
theorem iR {op:BinOp}{t:TypeId}{X Y:Operand}{a b:Value}(h1:¬(a= .nilIface/\b= .nilIface))(h2:∀c d,¬(a= .agg c/\b= .agg d)):
 (eqGuard op t X Y a b).run P w= .ok () w:=by
 cases op<;>first
  |rfl
  |(simp only[eqGuard,agm,afY,agn]
    split
    ·exact absurd ⟨rfl,rfl⟩ h1
    ·exact absurd ⟨rfl,rfl⟩ (h2 _ _)
    ·rfl)
theorem yr {op:BinOp}{t:TypeId}{X Y:Operand}(h:Bb X Y=true):(eqGuard op t X Y .nilIface .nilIface).run P w= .ok () w:=by
 cases X<;>cases Y<;>first|(simp[Bb]at h;done)|(cases op<;>rfl)
theorem Ia {d:gH}{x y:CV}{b:Bool}(h:jx d x y=some b){s:List CV}(hx:x= .agg s):yE d=true:=by
 subst hx;cases d<;>simp[yE,jx]at h⊢
theorem zG {op:BinOp}{t:TypeId}{d:Option gH}{tk:Bool}{x y:CV}{x' y':Value}{X Y:Operand}{f:Nat}(h:ai op d tk x y st= .ok v st')(hw:WR ρ st w)(hx:VR ρ x x')(hy:VR ρ y y')
 (hd:∀e,d=some e->eh P f t=some e) (hf:f<10000) (hc:tk=Bb X Y) (hg:∀e,d=some e->yE e=true->P.eqGuardType P.depth t=false):
 bh P (do eqGuard op t X Y x' y';binOp op t x' y') ρ st w v st':=by
 have quiet:∀{a b:Value},(eqGuard op t X Y a b).run P w= .ok () w->bh P (binOp op t a b) ρ st w v st'->bh P (do eqGuard op t X Y a b;binOp op t a b) ρ st w v st':=by
  intro a b hq hd;obtain⟨v',w',ρ',h1,h2,h3⟩:=hd;exact⟨v',w',ρ',by simp[hq,h1],h2,h3⟩
 unfold ai at h
 split at h
 ·cases hx;cases hy;exact quiet (iR (by simp) (by simp)) (zD h hw)
 ·cases hx;cases hy;exact quiet (iR (by simp) (by simp)) (zz h hw)
 ·rename_i q a m;cases hx;cases hy with
  |gy _ c hc=>
   unfold oZ at h
   split at h
   ·rw[aO]at h
    split at h
    ·cases h
    ·rename_i hlt;cases h;have Yh:¬((m:Nat):Int)<a:=by simpa using hlt
     refine quiet (iR (by simp) (by simp)) (bh.still hw ?_ (.bool false));have h2:decide (c<a)=false:=by simp;omega
     simp[binOp];show Sem.run P (pure (Value.bool (decide (c<a)))) w=_;rw[h2];rfl
   ·cases h
 ·cases h
 ·cases h
 ·cases h
 ·cases h
 ·rename_i Oj O1 KE Qx hni TZ hnc
  split at h
  ·rename_i e
   have key:∀b,Cp e tk x y=some b->(Op.equal t x' y').run P w= .ok b w/\(eqGuard op t X Y x' y').run P w= .ok () w:=by
    intro b hb
    have ig:jx e x y=some b:=by
     unfold Cp at hb
     split at hb
     ·rw[aO]at hb;split at hb
      ·exact hb
      ·cases hb
     ·exact hb
    refine⟨E6 (P:=P) (w:=w) (ρ:=ρ) f t e (hd e rfl) 10000 hf x y x' y' b ig hx hy, ?_⟩
    by_cases h1:x'= .nilIface/\y'= .nilIface
    ·obtain⟨rfl,rfl⟩:=h1;cases hx<;>first|(exact absurd rfl O1)|skip
     cases hy<;>first|(exact absurd rfl Qx)|skip
     have:tk=true:=by
      have e:Cp e tk .cK .cK=bk tk (jx e .cK .cK) none:=rfl;rw[e,aO]at hb
      split at hb
      ·assumption
      ·cases hb
     exact yr (by rw[<-hc,this])
    ·by_cases h2:∃c d,x'= .agg c/\y'= .agg d
     ·obtain⟨c,d,rfl,rfl⟩:=h2;have:yE e=true:=by cases hx with|agg s l _ _=>exact Ia ig rfl|any=>exact absurd rfl O1
      exact run_eqGuard_agg w op t X Y c d (hg e rfl this)
     ·exact iR h1 (fun c d hh=>h2 ⟨c,d,hh⟩)
   have AS:∀k k' a b,¬(x'= .int k a/\y'= .int k' b):=by
    rintro k k' a b ⟨rfl,rfl⟩;cases hx with
    |any=>exact O1 rfl
    |gy _ _ _=>exact Oj _ rfl
    |int _ _=>
     cases hy with
     |any=>exact Qx rfl
     |gy _ _ _=>exact KE _ rfl
     |int _ _=>exact hni _ _ _ _ rfl rfl
   unfold Mc at h
   split at h
   ·rename_i b hb;obtain⟨k1,k2⟩:=key b hb;cases h;refine quiet k2 (bh.still hw ?_ (.bool b))
    cases hx<;>first
     |(exact absurd rfl O1)
     |(cases hy<;>first
      |(exact absurd rfl Qx)
      |(exact absurd ⟨rfl,rfl⟩ (AS _ _ _ _))
      |(exact(TZ _ _ rfl rfl).elim)
      |(simp only[binOp];simp[k1]))
   ·rename_i b hb;obtain⟨k1,k2⟩:=key b hb;cases h;refine quiet k2 (bh.still hw ?_ (.bool _))
    cases hx<;>first
     |(exact absurd rfl O1)
     |(cases hy<;>first
      |(exact absurd rfl Qx)
      |(exact absurd ⟨rfl,rfl⟩ (AS _ _ _ _))
      |(exact(TZ _ _ rfl rfl).elim)
      |(simp only[binOp];simp[k1]))
   ·cases h
  ·cases h
def fA (op:UnOp)(x:CV)(st:St):OR:=
 match op,x with
 | .not, .bool b=> .ok (.bool (!b)) st
 | .neg, .int k n=> .ok (.int k (k.wrap (0-n))) st
 | .xor, .int k n=>(match gD .xor k (if k.signed then-1 else k.max) n with|some r=> .ok (.int k r) st|none=> .bad)
 |_,_=> .bad
theorem BC {op:UnOp}{x:CV}{x':Value}(h:fA op x st= .ok v st')(hw:WR ρ st w)(hx:VR ρ x x'):bh P (Op.unary op x') ρ st w v st':=by
 unfold fA at h
 split at h
 ·cases h;cases hx;exact bh.still hw rfl (.bool _)
 ·cases h;cases hx;exact bh.still hw rfl (.int _ _)
 ·rename_i k n
  split at h
  ·rename_i r hr;cases h;cases hx;exact bh.still hw (qw P w .xor k _ n r hr) (.int _ _)
  ·cases h
 ·cases h
end
section
variable {P:Program} {ρ:Ren} {st st':St} {w:World} {v:CV}
theorem VR.eC {b:Nat}{off len cap grow:Nat}{x':Value}(h:VR ρ (.slice b off len cap grow) x'):
 ∃r sz cx cap',x'= .slice (some ⟨r,cx,none⟩) len cap'/\ρ b=some (r,sz)/\(0<cap->cx=off)/\cap<=cap'/\(grow=0->cap'=cap/\cx=off)/\
  (0<grow->cx+cap'*grow<=sz/\len<=cap):=by
 cases h with
 |slice _ _ _ _ r sz h=>exact⟨r,sz,off,cap,rfl,h,fun _=>rfl,aga _,fun _=>⟨rfl,rfl⟩,fun h=>absurd h (by omega)⟩
 |lu _ _ cx _ _ cap' _ r sz h hg hl hc ho hs=>exact⟨r,sz,cx,cap',rfl,h,ho,hc,fun e=>by omega,fun _=>⟨hs,hl⟩⟩
def cY (size:Nat)(n:Nat)(x:CV)(st:St):Option (List CV):=
 match x with
 | .aa=>some []
 | .slice b off len _ grow=>bk (Nat.beq n 0) (some []) (bk (Bool.or (Nat.beq grow 0) (Nat.ble n len)) (match st.mem.get b with|some (.cells s _ _)=>fG s off (n*size)|some (.ro s _)=>fG s off (n*size)|_=>none) none)
 |_=>none
theorem iF {size n:Nat}{x:CV}{x':Value}{t:List CV}(h:cY size n x st=some t)(hn:∀e,x= .aa->e=n->e=0)(hw:WR ρ st w)(hx:VR ρ x x'):
 ∃vs,cL ρ t vs/\vs.length=n*size/\∀w1:World,w1.heap=w.heap->(Builtin.firstCells size n x').run P w1= .ok vs.toArray w1:=by
 unfold cY at h
 split at h
 ·cases h;cases hx;have:=hn n rfl rfl;subst this;exact⟨[],cL.nil ρ,by simp,fun w1 _=>by simp[Builtin.firstCells]⟩
 ·rename_i b off len cap grow;obtain⟨r,sz,cx,cap',rfl,hr,h1,h2,h3,h4⟩:=hx.eC;rw[aO]at h
  split at h
  ·rename_i h0;simp only[agA]at h0;subst h0;cases h;exact⟨[],cL.nil ρ,by simp,fun w1 _=>by simp[Builtin.firstCells,loadCells,loadCellsFrom]⟩
  ·rename_i h0;simp only[agA]at h0;rw[aO]at h
   split at h
   ·rename_i hg;simp only[agU,agA,agw]at hg
    split at h
    ·rename_i s ty g hm;obtain⟨c,lo,hi,e1,e2,e3,e4,e5⟩:=hw.row hm hr;obtain⟨g1,g2⟩:=gu h
     have ho:cx=off:=by
      rcases hg with hg|hg
      ·exact(h3 hg).2
      ·by_cases hz:grow=0
       ·exact(h3 hz).2
       ·have:=(h4 (by omega)).2;exact h1 (by omega)
     subst ho;have MG:=g1;refine⟨(c.toList.drop cx).take (n*size), ?_,by simp;omega,fun w1 Eh=> ?_⟩
     ·rw[show t=(s.drop cx).take (n*size)from g2]
      have e:(c.toList.drop cx).take (n*size)=((c.toList.take s.length).drop cx).take (n*size):=by
       rw[ahs,agV,agD (by omega)]
      rw[e];exact(e4.drop cx).take _
     ·exact cZ P w1 r cx (n*size) c ty (lo,hi) (by rw[Eh];exact e1) (by omega)
    ·rename_i s o0 hm;obtain⟨c,ty,lo,hi,e1,e2,e3,e4⟩:=hw.Dr hm hr;obtain⟨g1,g2⟩:=gu h
     have ho:cx=off:=by
      rcases hg with hg|hg
      ·exact(h3 hg).2
      ·by_cases hz:grow=0
       ·exact(h3 hz).2
       ·have:=(h4 (by omega)).2;exact h1 (by omega)
     subst ho;have MG:=g1;refine⟨(c.toList.drop cx).take (n*size), ?_,by simp;omega,fun w1 Eh=> ?_⟩
     ·rw[show t=(s.drop cx).take (n*size)from g2]
      have e:(c.toList.drop cx).take (n*size)=((c.toList.take s.length).drop cx).take (n*size):=by
       rw[ahs,agV,agD (by omega)]
      rw[e];exact(e4.drop cx).take _
     ·exact cZ P w1 r cx (n*size) c ty (lo,hi) (by rw[Eh];exact e1) (by omega)
    ·cases h
   ·cases h
 ·cases h
inductive va where
 |toInt (k:IntKind)
 |same
 |bytesOf (e:TypeId)
 |strOf
def bQ (c:va)(x:CV)(st:St):OR:=
 match c,x with
 | .toInt k, .int _ n=> .ok (.int k (k.wrap n)) st
 | .same, .str l=> .ok (.str l) st
 | .bytesOf e, .str l=> .ok (.slice st.next 0 l.length l.length 1) ⟨st.mem.put st.next (some (.cells (l.map bo) e true)),st.next+1⟩
 | .strOf, .aa=> .ok (.str []) st
 | .strOf, .slice b off len cap grow=>(match cY 1 len (.slice b off len cap grow) st with
   |some t=>(match yN t with|some l=> .ok (.str l) st|none=> .bad)
   |_=> .bad)
 |_,_=> .bad
def yy (P:Program)(c:va)(src dst:TypeId):Prop:=
 match c with
 | .toInt k=>P.underlying dst=some (.int k)/\∃d,P.underlying src=some d
 | .same=>P.underlying dst=some .string/\P.underlying src=some .string
 | .bytesOf e=>P.underlying dst=some (.slice e)/\P.underlying e=some (.int .u8)/\P.underlying src=some .string
 | .strOf=>∃e,P.underlying src=some (.slice e)/\P.underlying e=some (.int .u8)/\P.underlying dst=some .string
theorem zW (l:List Int):∀s:ByteArray,l.foldl (fun r n=>r.push (UInt8.ofNat n.toNat)) s=⟨s.data++(l.map fun n=>UInt8.ofNat n.toNat).toArray⟩:=by
 induction l with
 |nil=>intro s;simp
 |cons a l ih=>
  intro s;rw[List.foldl_cons,ih]
  congr 1
  apply Array.ext';simp[ByteArray.push]
theorem Aa {l:List UInt8}{vs:List Value}(h:cL ρ (l.map bo) vs):vs=(l.map fun x:UInt8=>(x.toNat:Int)).map (Value.int .u8):=by
 have:=(VR.wK h).nu;simp only[Value.agg.injEq]at this;have:=congrArg Array.toList this;simp only[]at this;rw[this,aid];rfl
theorem xL {c:va}{src dst:TypeId}{x:CV}{x':Value}(h:bQ c x st= .ok v st')(hw:WR ρ st w)(hx:VR ρ x x')(hf:yy P c src dst):
 bh P (convert src dst x') ρ st w v st':=by
 unfold bQ at h
 split at h
 ·obtain⟨h1,d,h2⟩:=hf;cases h;cases hx;refine bh.still hw ?_ (.int _ _);simp only[convert,Sem.run_bind,agd h2,agd h1,Result.andThen_ok];cases d<;>simp[Conv.intToInt]
 ·obtain⟨h1,h2⟩:=hf;cases h;cases hx;refine bh.still hw ?_ (.str _);simp[convert,agd h2,agd h1]
 ·rename_i e l;obtain⟨h1,h2,h3⟩:=hf;cases h;cases hx
  let cap:=(Question.appendCap l.length 0 e).cut (w.tape w.drawn (.appendCap l.length 0 e))
  have Ca:l.length<=cap:=by show l.length<=l.length+_;omega
  let o:Obj:= .cells (((fe l).data.map fun b=>Value.int .u8 b.toNat)++Array.replicate (cap-l.length) (.int .u8 0)) e (cap,cap+1)
  have mQ:((fe l).data.map fun b=>Value.int .u8 b.toNat).toList=(l.map fun x:UInt8=>Value.int .u8 (x.toNat:Int)):=by
   simp[fe]
  have hsz:(((fe l).data.map fun b=>Value.int .u8 b.toNat)++Array.replicate (cap-l.length) (Value.int .u8 0)).size=cap:=by
   have:(fe l).data.size=l.length:=hE l;simp[this];omega
  have hb:∀ρ,BR ρ (.cells (l.map bo) e true) o cap:=fun ρ=>by
   have hs:(l.map bo).length=l.length:=by simp
   have:=BR.cells (ρ:=ρ) (l.map bo) e true (((fe l).data.map fun b=>Value.int .u8 b.toNat)++Array.replicate (cap-l.length) (.int .u8 0)) cap (cap+1) (by rw[hs,hsz];exact Ca)
    (by
     rw[Array.toList_append,mQ,hs];rw[aht (by simp)];exact cL.bytes ρ l)
    (fun k hk=>by rw[hsz]at hk;omega) (fun h=>by cases h)
   rw[hsz]at this;exact this
  have ha:=aY.new (hw.wv (w':={w with drawn:=w.drawn+1}) rfl) (hb (ρ.set st.next (w.heap.size,cap)));have hd:=aY.draw hw (w.drawn+1);refine⟨.slice (some ⟨w.heap.size,0,none⟩) l.length cap,_,_, ?_, .lu _ _ 0 _ _ cap 1 _ _ ha.2 (by omega) (aga _) Ca (fun _=>rfl) (by omega),hd.trans ha.1⟩;have hs:=hE l;simp only[convert,Sem.run_bind,agd h3,agd h1,agd h2,Result.andThen_ok,Conv.stringToBytes,run_choose,hs];simp only[Question.forced,afY,agn,Result.andThen_ok,newRow,Sem.run_bind,run_newObj,Sem.run_pure]
  have Cz:({heap:=w.heap.push (.cells (((fe l).data.map fun b=>Value.int .u8 b.toNat)++Array.replicate (cap-l.length) (.int .u8 0)) e),tape:=w.tape,drawn:=w.drawn+1,os:=w.os,output:=w.output}:World).shape? w.heap.size=some (e,cap):=by
   simp only[World.shape?,Array.getElem?_push_size,hsz]
  simp only[markStringish,Sem.run_bind,run_shape,Result.andThen_ok];rw[show(Question.appendCap l.length 0 e).cut (w.tape w.drawn (Question.appendCap l.length 0 e))=cap from rfl,Cz];simp only[run_freeze,Result.andThen_ok]
  congr 1
  simp only[World.freeze,Nat.succ_ne_zero,agn,World.mk.injEq,and_true];apply Array.ext
  ·simp
  ·intro k h1 h2;simp only[Array.getElem_modify,Array.getElem_push]
   by_cases hk:k=w.heap.size
   ·subst hk;simp[o]
   ·have:k<w.heap.size:=by simp at h2;omega
    simp[this,agZ hk]
 ·obtain⟨e,h1,h2,h3⟩:=hf;cases h;cases hx;refine bh.still hw ?_ (.str []);rw[run_convert_bytes_string w src dst e none 0 0 h1 h2 h3]
  rfl
 ·rename_i b off len cap grow;obtain⟨e,h1,h2,h3⟩:=hf;cases hs:cY 1 len (.slice b off len cap grow) st with
  |none=>rw[hs]at h;cases h
  |some t=>
   rw[hs]at h;obtain⟨vs,g1,g2,g3⟩:=iF (P:=P) hs (fun _ h _=>by cases h) hw hx;obtain⟨r,sz,cx,cap',rfl,hr,_⟩:=hx.eC;have HQ:=g3 w rfl;simp only[Builtin.firstCells,ahJ]at HQ;dsimp only at h;cases hl:yN t with
   |none=>rw[hl]at h;cases h
   |some l=>
    rw[hl]at h;cases h;have hv:=Aa (by rw[oL hl]at g1;exact g1);rw[hv]at HQ;refine bh.still hw ?_ (.str l);rw[run_convert_bytes_string w src dst e _ _ _ h1 h2 h3,run_bytesToString w _ _ _ _ HQ,zW]
    congr 2
    unfold fe
    congr 1
    apply Array.ext';simp[aid,Function.comp_def]
 ·cases h
end
