import Derived.WalkKit
import Derived.ChangeKeysEq
import Derived.Stop.BytesEq
namespace Lim
open Go
abbrev aAy:=@List.getElem?_cons_zero
abbrev aAz:=@Bool.false_eq_true
abbrev aAA:=@List.getElem?_cons_succ
abbrev aAB:=@decide_eq_false
abbrev aAC:=@List.getElem?_eq_getElem
abbrev aAD:=@List.mem_cons
abbrev aAE:=@Nat.le_refl
abbrev aAF:=@Nat.zero_add
abbrev aAG:=@List.length_append
abbrev aAH:=@if_neg
abbrev aAI:=@if_pos
abbrev aAJ:=@decide_eq_true
abbrev aAK:=@List.take_of_length_le
abbrev aAL:=@run_underlying
abbrev aAM:=@List.mem_append
abbrev aAN:=@List.length_take
abbrev aAO:=@if_false
abbrev aAP:=@List.getElem?_eq_some_iff
abbrev aAQ:=@List.nodup_cons
abbrev aAR:=@List.take_succ_eq_append_getElem
abbrev aAS:=@List.drop_eq_getElem_cons
abbrev aAT:=@Bool.not_false
abbrev aAU:=@Bool.not_true
abbrev aAV:=@Bool.and_eq_true
abbrev aAW:=@List.getElem_mem
abbrev aAX:=@List.length_drop
abbrev aAY:=@if_true
abbrev aAZ:=@Nat.lt_of_lt_of_le
abbrev aBa:=@List.length_eq_zero_iff
abbrev aBb:=@List.length_cons
abbrev aBc:=@decide_eq_decide
abbrev aBd:=@List.mem_map
abbrev aBe:=@Nat.ble_eq
abbrev aBf:=@List.nil_append
abbrev aBg:=@List.drop_zero
abbrev aBh:=@List.map_cons
abbrev aBi:=@Nat.beq_eq
abbrev aBj:=@List.drop_of_length_le
abbrev aBk:=@List.mem_cons_of_mem
abbrev aBl:=@Nat.add_zero
abbrev aBm:=@List.take_append_drop
abbrev aBn:=@List.append_assoc
abbrev aBo:=@List.not_mem_nil
abbrev aBp:=@List.mem_of_mem_take
abbrev aBq:=@Nat.min_eq_left
abbrev aBr:=@Array.getElem?_eq_some_iff
abbrev aBs:=@List.getElem?_eq_none
abbrev aBt:=@List.length_replicate
abbrev aBu:=@Nat.mul_le_mul_right
abbrev aBv:=@List.mem_of_mem_drop
abbrev aBw:=@List.getElem?_map
abbrev aBx:=@List.mem_of_getElem?
abbrev aBy:=@List.nodup_append
abbrev aBz:=@List.append_nil
abbrev aBA:=@decide_true
abbrev aBB:=@Bool.or_eq_true
abbrev aBC:=@List.cons_append
abbrev aBD:=@List.getElem_of_mem
abbrev aBE:=@Ne.symm
abbrev aBF:=@List.mem_cons_self
abbrev aBG:=@Nat.eq_of_mul_eq_mul_right
abbrev aBH:=@Array.getElem?_setIfInBounds_ne
abbrev aBI:=@Nat.add_mul
abbrev aBJ:=@List.length_map
abbrev aBK:=@List.mem_map_of_mem
abbrev aBL:=@Option.map_some
abbrev aBM:=@List.mem_singleton
abbrev aBN:=@List.take_take
abbrev aBO:=@List.getElem?_append_right
abbrev aBP:=@List.map_append
abbrev aBQ:=@List.getElem?_toArray
abbrev aBR:=@decide_eq_true_eq
abbrev aBS:=@Nat.le_trans
abbrev aBT:=@Nat.lt_or_ge
abbrev aBU:=@List.flatten_cons
abbrev aBV:=@List.filter_cons
abbrev aBW:=@List.take_left'
abbrev aBX:=@Nat.add_sub_cancel
abbrev aBY:=@not_or
abbrev aBZ:=@List.map_drop
abbrev aCa:=@Option.some.injEq
abbrev aCb:=@List.length_nil
abbrev aCc:=@Option.getD_some
abbrev aCd:=@Option.some.inj
abbrev aCe:=@List.getElem?_append_left
abbrev aCf:=@Array.toArray_toList
abbrev aCg:=@or_false
abbrev aCh:=@Array.length_toList
abbrev aCi:=@decide_false
abbrev aCj:=@Array.toList_map
abbrev aCk:=@List.map_take
abbrev aCl:=@List.filter_append
abbrev aCm:=@List.cons.injEq
abbrev aCn:=@Prod.mk.injEq
abbrev aCo:=@Nat.mul_one
abbrev aCp:=@List.perm_iff_count
abbrev aCq:=@List.drop_take
abbrev aCr:=@List.take_zero
abbrev aCs:=@List.mem_filter
abbrev aCt:=@List.mem_append_left
abbrev aCu:=@List.reverse_reverse
abbrev aCv:=@List.take_append
abbrev aCw:=@Nat.mod_eq_of_lt
abbrev aCx:=@List.take_succ_cons
abbrev aCy:=@List.count_append
abbrev aCz:=@List.mem_or_eq_of_mem_set
abbrev aCA:=@Nat.mul_comm
abbrev aCB:=@List.getElem?_take
abbrev aCC:=@true_and
abbrev aCD:=@List.pairwise_append
abbrev aCE:=@Nat.add_sub_cancel_left
abbrev aCF:=@List.ext_getElem?
abbrev aCG:=@List.pairwise_map
abbrev aCH:=@Nat.one_mul
abbrev aCI:=@List.replicate_succ
abbrev aCJ:=@List.drop_replicate
abbrev aCK:=@List.length_pos_iff
abbrev aCL:=@List.count_cons
abbrev aCM:=@List.findIdx_le_length
abbrev aCN:=@List.getD_eq_getElem?_getD
abbrev aCO:=@List.all_eq_true
abbrev aCP:=@Int.natCast_nonneg
abbrev aCQ:=@List.set_eq_take_append_cons_drop
abbrev aCR:=@Nat.eq_or_lt_of_le
abbrev aCS:=@List.mem_append_right
abbrev aCT:=@List.pairwise_iff_getElem
abbrev aCU:=@List.drop_drop
abbrev aCV:=@List.size_toArray
abbrev aCW:=@List.drop_left'
abbrev aCX:=@List.map_map
abbrev aCY:=@Array.getElem?_push
abbrev aCZ:=@List.flatten_append
abbrev aDa:=@List.takeWhile_cons
abbrev aDb:=@decide_eq_false_iff_not
abbrev aDc:=@List.nodup_nil
abbrev aDd:=@List.getElem?_drop
abbrev aDe:=@Array.toList_range
abbrev aDf:=@List.pairwise_cons
abbrev aDg:=@Bool.eq_iff_iff
abbrev aDh:=@Array.getElem?_append
abbrev aDi:=@Nat.succ_le_iff
abbrev aDj:=@Nat.pow_succ
abbrev aDk:=@List.length_filter_le
abbrev aDl:=@Int.toNat_natCast
abbrev aDm:=@Bool.not_eq_true'
abbrev aDn:=@List.foldl_append
abbrev aDo:=@Nat.mul_le_mul
abbrev aDp:=@Nat.zero_le
abbrev aDq:=@Nat.zero_mul
abbrev aDr:=@Nat.add_comm
noncomputable section
def PT (α:Type):=Nat->Option α
namespace PT
variable {α:Type}
def get (t:PT α)(p:Nat):Option α:=t p
def put (t:PT α)(p:Nat)(x:Option α):PT α:=fun q=>if q=p then x else t q
def nil:PT α:=fun _=>none
theorem eO (t:PT α)(p q:Nat)(x:Option α):(t.put p x).get q=if q=p then x else t.get q:=rfl
theorem cI (t:PT α)(p:Nat)(x:Option α):(t.put p x).get p=x:=by simp[eO]
theorem c9 (t:PT α)(p q:Nat)(x:Option α)(h:q≠p):(t.put p x).get q=t.get q:=by simp[eO,h]
@[simp] theorem get_nil (p:Nat):(nil:PT α).get p=none:=rfl
theorem ext {t u:PT α}(h:∀p,t.get p=u.get p):t=u:=funext h
end PT
def bu {α:Type}(b:Bool)(t f:α):α:=if b=true then t else f
@[simp] theorem aO {α:Type}(b:Bool)(t f:α):bu b t f=if b=true then t else f:=rfl
def nL {α β:Type}(x:α)(k:α->β):β:=k x
@[simp] theorem dE {α β:Type}(x:α)(k:α->β):nL x k=k x:=rfl
inductive CV where
 |undef
 |bool (b:Bool)
 |int (k:IntKind) (n:Int)
 |str (l:List UInt8)
 |bq
 |ptr (b:Nat) (off:Nat)
 |ae
 |slice (b:Nat) (off len cap grow:Nat)
 |fM
 |map (b:Nat)
 |func (fn:Fn) (first captured:List CV)
 |lR
 |iface (t:TypeId) (v:CV)
 |fW
 |agg (s:List CV)
 |tuple (s:List CV)
 |gN (n:Nat)
 |any
def bO (b:UInt8):CV:= .int .u8 b.toNat
abbrev row (s:List CV):List CV:=s
def ig {α:Type}(s:List α)(off n:Nat):Option (List α):=if off+n<=s.length then some ((s.drop off).take n)else none
def dQ {α:Type}(s:List α)(off:Nat)(t:List α):Option (List α):=if off+t.length<=s.length then some (s.take off++(t++s.drop (off+t.length)))else none
theorem jw {α:Type}{s t:List α}{off n:Nat}(h:ig s off n=some t):off+n<=s.length/\t=(s.drop off).take n:=by
 unfold ig at h;split at h
 ·cases h;exact⟨by assumption,rfl⟩
 ·cases h
theorem wO {α:Type}{s t s':List α}{off:Nat}(h:dQ s off t=some s'):off+t.length<=s.length/\s'=s.take off++(t++s.drop (off+t.length)):=by
 unfold dQ at h;split at h
 ·cases h;exact⟨by assumption,rfl⟩
 ·cases h
inductive qJ where
 |cells (s:List CV) (t:TypeId) (grow:Bool)
 |map (es:List (CV×CV×Nat)) (clock:Nat)
 |lmap (es:List (CV×CV×Nat))
 |ro (s:List CV) (o:Obj)
structure St where
 mem:PT qJ
 next:Nat
abbrev Ren:=Nat->Option (Nat×Nat)
def fG (l:List UInt8):ByteArray:=⟨l.toArray⟩
@[simp] theorem j9 (l:List UInt8):(fG l).size=l.length:=by simp[fG,ByteArray.size]
theorem vO (s:ByteArray):fG s.data.toList=s:=by cases s;simp[fG]
inductive VR (ρ:Ren):CV->Value->Prop where
 |undef:VR ρ .undef (.tuple #[])
 |bool (b:Bool):VR ρ (.bool b) (.bool b)
 |int (k:IntKind) (n:Int):VR ρ (.int k n) (.int k n)
 |str (l:List UInt8):VR ρ (.str l) (.string (fG l))
 |bq:VR ρ .bq (.pointer none)
 |ptr (b:Nat) (off r sz:Nat) (h:ρ b=some (r,sz)):VR ρ (.ptr b off) (.pointer (some ⟨r,off,none⟩))
 |ae:VR ρ .ae (.slice none 0 0)
 |slice (b:Nat) (off len cap r sz:Nat) (h:ρ b=some (r,sz)):VR ρ (.slice b off len cap 0) (.slice (some ⟨r,off,none⟩) len cap)
 |nk (b:Nat) (off dp len cap eX grow r sz:Nat) (h:ρ b=some (r,sz)) (hg:0<grow) (hl:len<=cap) (hc:cap<=eX) (ho:0<cap->dp=off)
  (hs:dp+eX*grow<=sz):VR ρ (.slice b off len cap grow) (.slice (some ⟨r,dp,none⟩) len eX)
 |fM:VR ρ .fM (.map none)
 |map (b:Nat) (r sz:Nat) (h:ρ b=some (r,sz)):VR ρ (.map b) (.map (some r))
 |func (fn:Fn) (f c:List CV) (f' c':List Value) (hf:(row f).length=f'.length) (hc:(row c).length=c'.length)
  (h1:∀(i:Nat) (v:CV) (v':Value),(row f)[i]?=some v->f'[i]?=some v'->VR ρ v v')
  (h2:∀(i:Nat) (v:CV) (v':Value),(row c)[i]?=some v->c'[i]?=some v'->VR ρ v v'):VR ρ (.func fn f c) (.func fn f'.toArray c'.toArray)
 |lR:VR ρ .lR .nilFunc
 |iface (t:TypeId) (v:CV) (v':Value) (h:VR ρ v v'):VR ρ (.iface t v) (.iface t v')
 |fW:VR ρ .fW .nilIface
 |agg (s:List CV) (l:List Value) (hl:(row s).length=l.length)
  (h:∀(i:Nat) (v:CV) (v':Value),(row s)[i]?=some v->l[i]?=some v'->VR ρ v v'):VR ρ (.agg s) (.agg l.toArray)
 |tuple (s:List CV) (l:List Value) (hl:(row s).length=l.length)
  (h:∀(i:Nat) (v:CV) (v':Value),(row s)[i]?=some v->l[i]?=some v'->VR ρ v v'):VR ρ (.tuple s) (.tuple l.toArray)
 |gN (n:Nat) (m:Int) (h:(n:Int)<=m):VR ρ (.gN n) (.int .i64 m)
 |any (v':Value):VR ρ .any v'
structure eu (ρ:Ren)(l:List CV)(l':List Value):Prop where
 len:l.length=l'.length
 at':∀(i:Nat) (v:CV) (v':Value),l[i]?=some v->l'[i]?=some v'->VR ρ v v'
def Ren.le (ρ ρ':Ren):Prop:=∀b r,ρ b=some r->ρ' b=some r
theorem VR.mono {ρ ρ':Ren}(hle:ρ.le ρ'){v:CV}{v':Value}(h:VR ρ v v'):VR ρ' v v':=by
 induction h with
 |undef=>exact .undef
 |bool b=>exact .bool b
 |int k n=>exact .int k n
 |str l=>exact .str l
 |bq=>exact .bq
 |ptr b off r sz h=>exact .ptr b off r sz (hle _ _ h)
 |ae=>exact .ae
 |slice b off len cap r sz h=>exact .slice b off len cap r sz (hle _ _ h)
 |nk b off dp len cap eX grow r sz h hg hl hc ho hs=>exact .nk b off dp len cap eX grow r sz (hle _ _ h) hg hl hc ho hs
 |fM=>exact .fM
 |map b r sz h=>exact .map b r sz (hle _ _ h)
 |func fn f c f' c' hf hc h1 h2 ih1 ih2=>exact .func fn f c f' c' hf hc ih1 ih2
 |lR=>exact .lR
 |iface t v v' _ ih=>exact .iface t v v' ih
 |fW=>exact .fW
 |agg s l hl _ ih=>exact .agg s l hl ih
 |tuple s l hl _ ih=>exact .tuple s l hl ih
 |gN n m h=>exact .gN n m h
 |any v'=>exact .any v'
theorem eu.mono {ρ ρ':Ren}(hle:ρ.le ρ'){l:List CV}{l':List Value}(h:eu ρ l l'):eu ρ' l l':=
 ⟨h.len,fun i v v' a b=>(h.at' i v v' a b).mono hle⟩
theorem eu.nil (ρ:Ren):eu ρ [] []:=⟨rfl,fun i v v' h=>by simp at h⟩
theorem eu.cons {ρ:Ren}{v:CV}{v':Value}{l:List CV}{l':List Value}(h:VR ρ v v')(t:eu ρ l l'):eu ρ (v::l) (v'::l'):=
 ⟨by simp[t.len],fun i x x' a b=>by
  cases i with
  |zero=>simp at a b;subst a;subst b;exact h
  |succ i=>exact t.at' i x x' (by simpa using a) (by simpa using b)⟩
theorem eu.inv {ρ:Ren}{v:CV}{l:List CV}{l':List Value}(h:eu ρ (v::l) l'):∃v' t',l'=v'::t'/\VR ρ v v'/\eu ρ l t':=by
 cases l' with
 |nil=>have:=h.len;simp at this
 |cons v' t'=>
  exact⟨v',t',rfl,h.at' 0 v v' rfl rfl,⟨by have:=h.len;simpa using this,fun i x x' a b=>h.at' (i+1) x x' (by simpa using a) (by simpa using b)⟩⟩
theorem eu.app {ρ:Ren}{l m:List CV}{l' m':List Value}(h:eu ρ l l')(t:eu ρ m m'):eu ρ (l++m) (l'++m'):=by
 induction l generalizing l' with
 |nil=>have:l'=[]:=by have:=h.len;simpa using this.symm
       subst this;exact t
 |cons v l ih=>obtain⟨v',t',rfl,h1,h2⟩:=h.inv;exact eu.cons h1 (ih h2)
theorem eu.take {ρ:Ren}{l:List CV}{l':List Value}(h:eu ρ l l')(n:Nat):eu ρ (l.take n) (l'.take n):=
 ⟨by simp[h.len],fun i v v' a b=>by
  rw[aCB]at a b
  split at a
  ·rename_i hi;rw[aAI hi]at b;exact h.at' i v v' a b
  ·cases a⟩
theorem eu.drop {ρ:Ren}{l:List CV}{l':List Value}(h:eu ρ l l')(n:Nat):eu ρ (l.drop n) (l'.drop n):=
 ⟨by simp[h.len],fun i v v' a b=>by rw[aDd]at a b;exact h.at' _ v v' a b⟩
theorem eu.bytes (ρ:Ren)(l:List UInt8):eu ρ (l.map bO) (l.map fun b:UInt8=>Value.int .u8 (b.toNat:Int)):=by
 induction l with
 |nil=>exact eu.nil ρ
 |cons a l ih=>exact eu.cons (.int _ _) ih
inductive BR (ρ:Ren):qJ->Obj->Nat->Prop where
 |cells (s:List CV) (t:TypeId) (g:Bool) (c:Array Value) (lo hi:Nat) (hlen:s.length<=c.size)
  (hc:eu ρ (row s) (c.toList.take s.length)) (hf:∀k,k<c.size->¬(lo<=k/\k<hi)) (hg:g=false->∀k,¬(lo<=k/\k<hi)):BR ρ (.cells s t g) (.cells c t (lo,hi)) c.size
 |map (es:List (CV×CV×Nat)) (clock:Nat) (es':List MapEntry) (hl:es.length=es'.length)
  (h:∀(i:Nat) (e:CV×CV×Nat) (e':MapEntry),es[i]?=some e->es'[i]?=some e'->VR ρ e.1 e'.key/\VR ρ e.2.1 e'.val/\e.2.2=e'.born) (sz:Nat):
  BR ρ (.map es clock) (.map es'.toArray clock) sz
 |lmap (es l:List (CV×CV×Nat)) (clock:Nat) (es':List MapEntry) (hp:l.Perm es) (hi:∀e∈es,∃n:Int,e.1= .int .i64 n) (hn:(es.map (·.1)).Nodup) (hs:Go.MapKept.Stamped es'.toArray clock) (hl:l.length=es'.length)
  (h:∀(i:Nat) (e:CV×CV×Nat) (e':MapEntry),l[i]?=some e->es'[i]?=some e'->VR ρ e.1 e'.key/\VR ρ e.2.1 e'.val) (sz:Nat):BR ρ (.lmap es) (.map es'.toArray clock) sz
 |ro (s:List CV) (c:Array Value) (t:TypeId) (lo hi:Nat) (hlen:s.length<=c.size) (hc:eu ρ (row s) (c.toList.take s.length)):BR ρ (.ro s (.cells c t (lo,hi))) (.cells c t (lo,hi)) c.size
theorem BR.mono {ρ ρ':Ren}(hle:ρ.le ρ'){b:qJ}{o:Obj}{n:Nat}(h:BR ρ b o n):BR ρ' b o n:=by
 cases h with
 |cells s t g c lo hi hlen hc hf hg=>exact .cells s t g c lo hi hlen (hc.mono hle) hf hg
 |map es clock es' hl h=>
  exact .map es clock es' hl (fun i e e' a b=>let ⟨x,y,z⟩:=h i e e' a b;⟨x.mono hle,y.mono hle,z⟩) _
 |lmap es l clock es' hp hi hn hs hl h=>exact .lmap es l clock es' hp hi hn hs hl (fun i e e' a b=>let ⟨x,y⟩:=h i e e' a b;⟨x.mono hle,y.mono hle⟩) _
 |ro s c t lo hi hlen hc=>exact .ro s c t lo hi hlen (hc.mono hle)
structure WR (ρ:Ren)(st:St)(w:World):Prop where
 at':∀b blk r sz,st.mem.get b=some blk->ρ b=some (r,sz)->∃o,w.heap[r]?=some o/\BR ρ blk o sz
 inj:∀b b' blk eY r sz Pq,st.mem.get b=some blk->st.mem.get b'=some eY->ρ b=some (r,sz)->ρ b'=some (r,Pq)->b=b'
 fresh:∀b x,ρ b=some x->b<st.next
structure bf (ρ:Ren)(st:St)(w:World)(ρ':Ren)(st':St)(w':World):Prop where
 wr:WR ρ' st' w'
 ext:ρ.le ρ'
 Jt:∀b,b<st.next->ρ b=none->ρ' b=none
 next:st.next<=st'.next
 origin:∀b blk r sz,st'.mem.get b=some blk->ρ' b=some (r,sz)->(∃b0 blk0 BJ,st.mem.get b0=some blk0/\ρ b0=some (r,BJ))\/w.heap.size<=r
 kept:∀r:Nat,r<w.heap.size->(∀b blk sz,st.mem.get b=some blk->ρ b≠some (r,sz))->w'.heap[r]?=w.heap[r]?
 size:w.heap.size<=w'.heap.size
 os:w'.os=w.os
 output:w'.output=w.output
theorem bf.refl {ρ:Ren}{st:St}{w:World}(h:WR ρ st w):bf ρ st w ρ st w:=
 ⟨h,fun _ _ h=>h,fun _ _ h=>h,aAE _,fun b blk _ sz h1 h2=> .inl ⟨b,blk,sz,h1,h2⟩,fun _ _ _=>rfl,aAE _,rfl,rfl⟩
theorem bf.trans {ρ ρ1 ρ2:Ren}{st gw tL:St}{w w1 w2:World}(a:bf ρ st w ρ1 gw w1)(b:bf ρ1 gw w1 ρ2 tL w2):
 bf ρ st w ρ2 tL w2 where
 wr:=b.wr
 ext:=fun _ _ h=>b.ext _ _ (a.ext _ _ h)
 Jt:=fun q hq h=>b.Jt q (aAZ hq a.next) (a.Jt q hq h)
 next:=aBS a.next b.next
 origin:=fun x blk r sz h1 h2=>by
  rcases b.origin x blk r sz h1 h2 with⟨b0,blk0,BJ,h3,h4⟩|h3
  ·exact a.origin b0 blk0 r BJ h3 h4
  ·exact .inr (aBS a.size h3)
 kept:=fun r hr hn=>by
  rw[b.kept r (aAZ hr a.size),a.kept r hr hn];intro x blk sz h1 h2;rcases a.origin x blk r sz h1 h2 with⟨b0,blk0,BJ,h3,h4⟩|h3
  ·exact hn b0 blk0 BJ h3 h4
  ·omega
 size:=aBS a.size b.size
 os:=b.os.trans a.os
 output:=b.output.trans a.output
theorem WR.CT {ρ:Ren}{st:St}{w w':World}(h:WR ρ st w)(e:w'.heap=w.heap):WR ρ st w':=
 ⟨fun b blk r sz hb hr=>by rw[e];exact h.at' b blk r sz hb hr,h.inj,h.fresh⟩
theorem bf.draw {ρ:Ren}{st:St}{w:World}(h:WR ρ st w)(d:Nat):bf ρ st w ρ st {w with drawn:=d}:=
 ⟨h.CT rfl,fun _ _ h=>h,fun _ _ h=>h,aAE _,fun b blk _ sz h1 h2=> .inl ⟨b,blk,sz,h1,h2⟩,fun _ _ _=>rfl,aAE _,rfl,rfl⟩
def Ren.set (ρ:Ren)(b:Nat)(x:Nat×Nat):Ren:=fun q=>if b=q then some x else ρ q
theorem Ren.ey (ρ:Ren)(b:Nat)(x:Nat×Nat):ρ.set b x b=some x:=by simp[Ren.set]
theorem Ren.dt (ρ:Ren)(b q:Nat)(x:Nat×Nat)(h:q≠b):ρ.set b x q=ρ q:=by
 unfold Ren.set;rw[aAH];intro e;exact h (e.symm)
def St.new (st:St)(blk:qJ):St:=⟨st.mem.put st.next (some blk),(st.next+1)⟩
theorem bf.new {ρ:Ren}{st:St}{w:World}(h:WR ρ st w){blk:qJ}{o:Obj}{sz:Nat}(hb:BR (ρ.set st.next (w.heap.size,sz)) blk o sz):
 bf ρ st w (ρ.set st.next (w.heap.size,sz)) (st.new blk) {w with heap:=w.heap.push o}/\ρ.set st.next (w.heap.size,sz) st.next=some (w.heap.size,sz):=by
 have gL:∀b x,ρ b=some x->b≠st.next:=fun b x hx e=>by have:=h.fresh b x hx;rw[e]at this;omega
 have hle:ρ.le (ρ.set st.next (w.heap.size,sz)):=fun b _ hr=>by rw[Ren.dt _ _ _ _ (gL b _ hr)];exact hr
 have hlt:∀b blk r s,st.mem.get b=some blk->ρ b=some (r,s)->r<w.heap.size:=fun b blk r s h1 h2=>by
  obtain⟨o',e2,_⟩:=h.at' b blk r s h1 h2;exact(aBr.1 e2).1
 have ij:∀b eY,b≠st.next->(st.new blk).mem.get b=some eY->st.mem.get b=some eY:=fun b eY hb h1=>by
  simpa[St.new,PT.c9 _ _ _ _ hb]using h1
 have YW:∀b eY r s,(st.new blk).mem.get b=some eY->ρ.set st.next (w.heap.size,sz) b=some (r,s)->(∃b0 blk0 BJ,st.mem.get b0=some blk0/\ρ b0=some (r,BJ))\/w.heap.size<=r:=fun b eY r s h1 h2=>by
  by_cases e:b=st.next
  ·subst e;rw[Ren.ey]at h2;cases h2;exact .inr (aAE _)
  ·rw[Ren.dt _ _ _ _ e]at h2;exact .inl ⟨b,eY,s,ij b eY e h1,h2⟩
 have Ap:∀r:Nat,r<w.heap.size->(∀b blk sz,st.mem.get b=some blk->ρ b≠some (r,sz))->(w.heap.push o)[r]?=w.heap[r]?:=fun r hr _=>by
  rw[aCY,aAH (by omega)]
 refine⟨⟨⟨fun b eY r s h1 h2=> ?_,fun b b' mD lO r s s' h1 h2 h3 h4=> ?_,fun b x hx=> ?_⟩,hle,fun q hq hn=>by rw[Ren.dt _ _ _ _ (fun e=>by rw[e]at hq;omega)];exact hn, ?_,YW,Ap,by simp,rfl,rfl⟩,Ren.ey _ _ _⟩
 ·by_cases e:b=st.next
  ·subst e;simp only[St.new,PT.cI,aCa]at h1;subst h1;rw[Ren.ey]at h2;cases h2;exact⟨o,by simp,hb⟩
  ·rw[Ren.dt _ _ _ _ e]at h2;obtain⟨o',e2,e3⟩:=h.at' b eY r s (ij b eY e h1) h2;refine⟨o', ?_,e3.mono hle⟩;have:=(aBr.1 e2).1;rw[aCY,aAH (by omega)];exact e2
 ·by_cases e:b=st.next
  ·by_cases e':b'=st.next
   ·rw[e,e']
   ·rw[e,Ren.ey]at h3;cases h3;rw[Ren.dt _ _ _ _ e']at h4;have:=hlt b' lO _ _ (ij b' lO e' h2) h4;omega
  ·by_cases e':b'=st.next
   ·rw[e',Ren.ey]at h4;cases h4;rw[Ren.dt _ _ _ _ e]at h3;have:=hlt b mD _ _ (ij b mD e h1) h3;omega
   ·rw[Ren.dt _ _ _ _ e]at h3;rw[Ren.dt _ _ _ _ e']at h4;exact h.inj b b' mD lO r s s' (ij b mD e h1) (ij b' lO e' h2) h3 h4
 ·show b<(st.next+1)
  by_cases e:b=st.next
  ·subst e;omega
  ·rw[Ren.dt _ _ _ _ e]at hx;have:=h.fresh b x hx;omega
 ·show st.next<=(st.next+1);omega
def St.set (st:St)(b:Nat)(blk:qJ):St:=⟨st.mem.put b (some blk),st.next⟩
theorem bf.set {ρ:Ren}{st:St}{w w':World}(h:WR ρ st w){b:Nat}{blk0 blk:qJ}{r sz:Nat}{o:Obj}(h0:st.mem.get b=some blk0)(hr:ρ b=some (r,sz))
 (ho:w'.heap[r]?=some o) (hb:BR ρ blk o sz) (hk:∀k,k≠r->w'.heap[k]?=w.heap[k]?) (hs:w'.heap.size=w.heap.size) (YV:w'.os=w.os) (Nx:w'.output=w.output):
 bf ρ st w ρ (st.set b blk) w' where
 wr:={
  at':=fun q eY r' s' h1 e1=>by
   by_cases e:q=b
   ·subst e;simp only[St.set,PT.cI,aCa]at h1;subst h1;rw[hr]at e1;cases e1;exact⟨o,ho,hb⟩
   ·simp only[St.set,PT.c9 _ _ _ _ e]at h1;obtain⟨o',e2,e3⟩:=h.at' q eY r' s' h1 e1;refine⟨o', ?_,e3⟩;rw[hk r' (fun e'=>e (h.inj q b eY blk0 r s' sz h1 h0 (by rw[e1,e']) hr))];exact e2
  inj:=fun q q' mD lO r1 s1 s2 h1 h2 h3 h4=>by
   have g:∀q eY,(st.set b blk).mem.get q=some eY->∃x,st.mem.get q=some x:=fun q eY hq=>by
    by_cases e:q=b
    ·subst e;exact⟨_,h0⟩
    ·simp only[St.set,PT.c9 _ _ _ _ e]at hq;exact⟨_,hq⟩
   obtain⟨x1,g1⟩:=g q mD h1;obtain⟨x2,g2⟩:=g q' lO h2;exact h.inj q q' x1 x2 r1 s1 s2 g1 g2 h3 h4
  fresh:=h.fresh}
 ext:=fun _ _ h=>h
 Jt:=fun _ _ h=>h
 next:=aAE _
 origin:=fun q eY r1 s1 h1 h2=>by
  by_cases e:q=b
  ·subst e;exact .inl ⟨q,blk0,s1,h0,h2⟩
  ·simp only[St.set,PT.c9 _ _ _ _ e]at h1;exact .inl ⟨q,eY,s1,h1,h2⟩
 kept:=fun k _ hn=>hk k (fun e=>hn b blk0 sz h0 (by rw[hr,e]))
 size:=by omega
 os:=YV
 output:=Nx
def St.move (st:St)(b:Nat)(blk:qJ):St:=⟨(st.mem.put b none).put st.next (some blk),(st.next+1)⟩
theorem bf.move {ρ:Ren}{st:St}{w w':World}(h:WR ρ st w){b:Nat}{blk0 blk:qJ}{r sz:Nat}{o:Obj}(h0:st.mem.get b=some blk0)(hr:ρ b=some (r,sz))
 (ho:w'.heap[r]?=some o) (hb:BR (ρ.set st.next (r,sz)) blk o sz) (hk:∀k,k≠r->w'.heap[k]?=w.heap[k]?) (hs:w'.heap.size=w.heap.size) (YV:w'.os=w.os) (Nx:w'.output=w.output):
 bf ρ st w (ρ.set st.next (r,sz)) (st.move b blk) w':=by
 have gL:∀q x,ρ q=some x->q≠st.next:=fun q x hx e=>by have:=h.fresh q x hx;rw[e]at this;omega
 have hle:ρ.le (ρ.set st.next (r,sz)):=fun q x hx=>by rw[Ren.dt _ _ _ _ (gL q x hx)];exact hx
 have Dy:b≠st.next:=gL b _ hr
 have ij:∀q eY,q≠st.next->(st.move b blk).mem.get q=some eY->q≠b/\st.mem.get q=some eY:=fun q eY hq h1=>by
  simp only[St.move,PT.c9 _ _ _ _ hq]at h1
  by_cases e:q=b
  ·subst e;rw[PT.cI]at h1;cases h1
  ·rw[PT.c9 _ _ _ _ e]at h1;exact⟨e,h1⟩
 have YW:∀q eY r1 s,(st.move b blk).mem.get q=some eY->ρ.set st.next (r,sz) q=some (r1,s)->(∃b0 blk0 BJ,st.mem.get b0=some blk0/\ρ b0=some (r1,BJ))\/w.heap.size<=r1:=fun q eY r1 s h1 h2=>by
  by_cases e:q=st.next
  ·subst e;rw[Ren.ey]at h2;cases h2;exact .inl ⟨b,blk0,sz,h0,hr⟩
  ·rw[Ren.dt _ _ _ _ e]at h2;obtain⟨_,h1⟩:=ij q eY e h1;exact .inl ⟨q,eY,s,h1,h2⟩
 have Ap:∀k:Nat,k<w.heap.size->(∀b blk sz,st.mem.get b=some blk->ρ b≠some (k,sz))->w'.heap[k]?=w.heap[k]?:=fun k _ hn=>hk k (fun e=>hn b blk0 sz h0 (by rw[hr,e]));refine⟨⟨fun q eY r' s' h1 e1=> ?_,fun q q' mD lO r1 s s' h1 h2 h3 h4=> ?_,fun q x hx=> ?_⟩,hle,fun q hq hn=>by rw[Ren.dt _ _ _ _ (fun e=>by rw[e]at hq;omega)];exact hn, ?_,YW,Ap,by omega,YV,Nx⟩
 ·by_cases e:q=st.next
  ·subst e;simp only[St.move,PT.cI,aCa]at h1;subst h1;rw[Ren.ey]at e1;cases e1;exact⟨o,ho,hb⟩
  ·obtain⟨eb,h1⟩:=ij q eY e h1;rw[Ren.dt _ _ _ _ e]at e1;obtain⟨o',e2,e3⟩:=h.at' q eY r' s' h1 e1;refine⟨o', ?_,e3.mono hle⟩;rw[hk r' (fun e'=>eb (h.inj q b eY blk0 r s' sz h1 h0 (by rw[e1,e']) hr))];exact e2
 ·by_cases e:q=st.next
  ·by_cases e':q'=st.next
   ·rw[e,e']
   ·rw[e,Ren.ey]at h3;cases h3;rw[Ren.dt _ _ _ _ e']at h4;obtain⟨eb,h2⟩:=ij q' lO e' h2;exact absurd (h.inj q' b lO blk0 r s' sz h2 h0 h4 hr) eb
  ·by_cases e':q'=st.next
   ·rw[e',Ren.ey]at h4;cases h4;rw[Ren.dt _ _ _ _ e]at h3;obtain⟨eb,h1⟩:=ij q mD e h1;exact absurd (h.inj q b mD blk0 r s sz h1 h0 h3 hr) eb
   ·rw[Ren.dt _ _ _ _ e]at h3;rw[Ren.dt _ _ _ _ e']at h4;exact h.inj q q' mD lO r1 s s' (ij q mD e h1).2 (ij q' lO e' h2).2 h3 h4
 ·show q<(st.next+1)
  by_cases e:q=st.next
  ·subst e;omega
  ·rw[Ren.dt _ _ _ _ e]at hx;have:=h.fresh q x hx;omega
 ·show st.next<=(st.next+1);omega
theorem EJ (j k:IntKind):decide (j=k)=true↔j=k:=by simp
abbrev Zq (x y:Int):Bool:=decide (x=y)
theorem xt (x y:Int):Zq x y=true↔x=y:=by simp
def jA (op:BinOp)(k:IntKind)(x y:Int):Option Int:=
 match op with
 | .and=>some (k.wrap (BitVec.ofInt k.bits x&&&BitVec.ofInt k.bits y).toNat)
 | .or=>some (k.wrap (BitVec.ofInt k.bits x|||BitVec.ofInt k.bits y).toNat)
 | .xor=>some (k.wrap (BitVec.ofInt k.bits x^^^BitVec.ofInt k.bits y).toNat)
 | .andNot=>some (k.wrap (BitVec.ofInt k.bits x&&& ~~~BitVec.ofInt k.bits y).toNat)
 |_=>none
theorem wJ (P:Program)(w:World)(op:BinOp)(k:IntKind)(x y r:Int)(h:jA op k x y=some r):
 (Op.intBits op k x y).run P w= .ok (.int k r) w:=by
 cases op<;>simp only[jA,aCa,reduceCtorEq]at h<;>subst h<;>rfl
def CV.isAny (v:CV):Bool:=match v with| .any=>true|_=>false
def CV.cD (v:CV):List CV:=
 match v with
 | .agg s=>s
 |v=>[v]
theorem D6 {v:CV}(h:∀s,v≠ .agg s):v.cD=[v]:=by
 cases v<;>first|rfl|exact absurd rfl (h _)
theorem jT (g o i:Nat):(⟨g,o,none⟩:Addr).add i=⟨g,o+i,none⟩:=by unfold Addr.add;split<;>simp_all
theorem dU (P:Program)(w:World)(r o n:Nat)(c:Array Value)(t:TypeId)(fz:Nat×Nat)(h:w.heap[r]?=some (.cells c t fz))(hn:o+n<=c.size):
 (loadCells ⟨r,o,none⟩ n).run P w= .ok ((c.toList.drop o).take n).toArray w:=by
 have hl:((c.toList.drop o).take n).length=n:=by simp;omega
 have:=run_loadCells_list (P:=P) w ⟨r,o,none⟩ ((c.toList.drop o).take n) (fun j v hj=>by
  rw[jT];rw[aCB]at hj
  split at hj
  ·rw[aDd]at hj;simp only[World.cell?,h]
   simpa using hj
  ·cases hj)
 rw[hl]at this;exact this
theorem mQ (P:Program)(w:World)(r o:Nat)(c:Array Value)(t:TypeId)(fz:Nat×Nat)(v:Value)(h:w.heap[r]?=some (.cells c t fz))(hv:c.toList[o]?=some v):
 (load ⟨r,o,none⟩).run P w= .ok v w:=by
 have:w.cell? ⟨r,o,none⟩=some v:=by simp only[World.cell?,h];simpa using hv
 rw[run_load,this]
theorem gh (P:Program)(g o:Nat)(t:TypeId)(lo hi:Nat):∀(vs:List Value) (i:Nat) (cur:Array Value) (w:World),w.heap[g]?=some (.cells cur t (lo,hi))->
 (∀k,k<cur.size->¬(lo<=k/\k<hi))->o+i+vs.length<=cur.size->(∀v∈vs,v.oneCell'=true)->
 (storeCells ⟨g,o,none⟩ vs i).run P w= .ok () (w.setRow g (cur.toList.take (o+i)++vs++cur.toList.drop (o+i+vs.length)).toArray)
 |[],i,cur,w,hg,_,_,_=>by
  simp only[storeCells,aBz,aCb,aBl,aBm,aCf];rw[setRow_self w g cur t (lo,hi) hg]
  rfl
 |v::rest,i,cur,w,hg,hfz,hl,h1=>by
  have fv:o+i<cur.size:=by simp at hl;omega
  have mJ:w.cell? ⟨g,o+i,none⟩=some cur[o+i]:=by simp[World.cell?,hg,fv]
  have alw:w.frozen? ⟨g,o+i,none⟩=false:=by
   have:=hfz (o+i) fv;simp only[World.frozen?,hg,Bool.and_eq_false_iff,aDb];omega
  have hst:(store ((⟨g,o,none⟩:Addr).add i) v).run P w= .ok () (w.setRow g (cur.setIfInBounds (o+i) v)):=by
   rw[jT,run_store P w _ v _ (h1 v (by simp)),mJ];simp[alw,setCell_eq_setRow w g (o+i) cur t (lo,hi) v hg]
  have ih:=gh P g o t lo hi rest (i+1) (cur.setIfInBounds (o+i) v) (w.setRow g (cur.setIfInBounds (o+i) v)) (setRow_heap w g cur _ t _ hg)
   (by simpa using hfz) (by simp at hl⊢;omega) (fun x hx=>h1 x (by simp[hx]))
  simp only[storeCells,Sem.run_bind,hst,Result.andThen_ok,ih,setRow_setRow]
  congr 3
  have e:=list_seg_step cur.toList (o+i) v rest (by simp at hl⊢;omega)
  simpa[Array.toList_setIfInBounds,Nat.add_assoc]using e
theorem mP (w:World)(g:Nat)(c:Array Value)(k:Nat)(h:k≠g):(w.setRow g c).heap[k]?=w.heap[k]?:=by
 unfold World.setRow;simp only[Array.getElem?_modify];rw[aAH (fun e=>h e.symm)]
theorem nV (w:World)(g:Nat)(c:Array Value):(w.setRow g c).heap.size=w.heap.size:=by
 unfold World.setRow;simp
theorem WR.row {ρ:Ren}{st:St}{w:World}(h:WR ρ st w){b:Nat}{s:List CV}{t:TypeId}{g:Bool}{r sz:Nat}(h1:st.mem.get b=some (.cells s t g))(h2:ρ b=some (r,sz)):
 ∃c lo hi,w.heap[r]?=some (.cells c t (lo,hi))/\c.size=sz/\s.length<=sz/\eu ρ s (c.toList.take s.length)/\(∀k,k<c.size->¬(lo<=k/\k<hi)):=by
 obtain⟨o,e2,e3⟩:=h.at' b _ r sz h1 h2;cases e3 with
 |cells _ _ _ c lo hi hlen hc hf hg=>exact⟨c,lo,hi,e2,rfl,hlen,hc,hf⟩
theorem WR.Mv {ρ:Ren}{st:St}{w:World}(h:WR ρ st w){b:Nat}{s:List CV}{o0:Obj}{r sz:Nat}(h1:st.mem.get b=some (.ro s o0))(h2:ρ b=some (r,sz)):
 ∃c t lo hi,w.heap[r]?=some (.cells c t (lo,hi))/\c.size=sz/\s.length<=sz/\eu ρ s (c.toList.take s.length):=by
 obtain⟨o,e2,e3⟩:=h.at' b _ r sz h1 h2;cases e3 with
 |ro _ c t lo hi hlen hc=>exact⟨c,t,lo,hi,e2,rfl,hlen,hc⟩
theorem WR.Vl {ρ:Ren}{st:St}{w:World}(h:WR ρ st w){b:Nat}{s:List CV}{t:TypeId}{g:Bool}{r sz:Nat}(h1:st.mem.get b=some (.cells s t g))(h2:ρ b=some (r,sz)){c:Array Value}{lo hi:Nat}(h3:w.heap[r]?=some (.cells c t (lo,hi))):g=false->∀k,¬(lo<=k/\k<hi):=by
 obtain⟨o,e2,e3⟩:=h.at' b _ r sz h1 h2;rw[h3]at e2;cases e2;cases e3 with
 |cells _ _ _ c lo hi hlen hc hf hg=>exact hg
theorem VR.cD {ρ:Ren}{v:CV}{v':Value}(h:VR ρ v v')(hn:v.isAny=false):eu ρ (v.cD) v'.cells.toList:=by
 by_cases ha:∃s,v= .agg s
 ·obtain⟨s,rfl⟩:=ha;cases h with
  |agg s l hl h=>exact⟨by simpa[CV.cD,Value.cells]using hl,fun i v v' a b=>h i v v' a (by simpa[Value.cells]using b)⟩
 ·rw[D6 (fun s e=>ha ⟨s,e⟩)];have:v'.cells= #[v']:=by cases h<;>first|rfl|(cases hn;done)|exact absurd ⟨_,rfl⟩ ha
  rw[this];exact eu.cons h (eu.nil ρ)
theorem VR.Dm {ρ:Ren}{s:List CV}{l:List Value}(h:eu ρ s l):VR ρ (.agg s) (.agg l.toArray):= .agg s l h.len h.at'
theorem VR.tuple' {ρ:Ren}{s:List CV}{l:List Value}(h:eu ρ s l):VR ρ (.tuple s) (.tuple l.toArray):= .tuple s l h.len h.at'
theorem eu.get {ρ:Ren}{l:List CV}{l':List Value}(h:eu ρ l l'){i:Nat}{v:CV}(hv:l[i]?=some v):∃v',l'[i]?=some v'/\VR ρ v v':=by
 have hi:i<l.length:=by
  rcases aBT i l.length with h|h
  ·exact h
  ·simp[aBs h]at hv
 have:i<l'.length:=h.len▸hi;exact⟨l'[i],by simp,h.at' i v _ hv (by simp)⟩
def cr (v:CV):Bool:=match v with| .agg _| .tuple _| .undef| .any=>false|_=>true
def aV (s:List CV):Bool:=s.all cr
theorem mS {ρ:Ren}{v:CV}{v':Value}(h:VR ρ v v')(ho:cr v=true):v'.oneCell'=true:=by
 cases h<;>first|rfl|(simp[cr]at ho)
theorem A0 {x:CV}(h:aV x.cD=true):x.isAny=false:=by
 cases x<;>first|rfl|(simp[aV,CV.cD,cr]at h)
theorem mR (s:List CV)(h:aV s=true):∀v∈s,cr v=true:=by simpa[aV]using h
theorem bf.write {P:Program}{ρ:Ren}{st:St}{w:World}(h:WR ρ st w){b:Nat}{s t s':List CV}{ty:TypeId}{g:Bool}{off r sz:Nat}{vs:List Value}
 (h1:st.mem.get b=some (.cells s ty g)) (h2:ρ b=some (r,sz)) (hw:dQ s off t=some s') (hv:eu ρ t vs) (ho:aV t=true):
 ∃w',(storeCells ⟨r,off,none⟩ vs).run P w= .ok () w'/\bf ρ st w ρ (st.set b (.cells s' ty g)) w':=by
 obtain⟨c,lo,hi,e1,e2,e3,e4,e5⟩:=h.row h1 h2;obtain⟨w1,w2⟩:=wO hw;have hlen:vs.length=t.length:=by rw[<-hv.len]
 have jh:∀v∈vs,v.oneCell'=true:=fun v hm=>by
  obtain⟨i,fv,rfl⟩:=aBD hm;have:i<t.length:=hv.len▸fv;exact mS (hv.at' i t[i] _ (by simp) (by simp)) (mR t ho _ (aAW _))
 have jx:=gh P r off ty lo hi vs 0 c w e1 e5 (by omega) jh;refine⟨_,jx, ?_⟩
 have tr:s'.length=s.length:=by
  have:=congrArg List.length (w2);simp only[aAG,aAN,aAX]at this;omega
 have ji:=setRow_heap w r c (c.toList.take (off+0)++vs++c.toList.drop (off+0+vs.length)).toArray ty (lo,hi) e1
 have tB:(c.toList.take (off+0)++vs++c.toList.drop (off+0+vs.length)).toArray.size=sz:=by
  simp only[aCV,aAG,aAN,aAX,aCh];omega
 refine bf.set h h1 h2 ji ?_ (fun k hk=>mP w r _ k hk) (nV w r _) rfl rfl;have hb:=BR.cells (ρ:=ρ) s' ty g (c.toList.take (off+0)++vs++c.toList.drop (off+0+vs.length)).toArray lo hi (by rw[tB,tr];omega) ?_ (by rw[tB];rw[e2]at e5;exact e5) (h.Vl h1 h2 e1)
 ·rw[tB]at hb;exact hb
 ·have:s'=s.take off++(t++s.drop (off+t.length)):=w2;rw[tr,this]
  have e:(c.toList.take (off+0)++vs++c.toList.drop (off+0+vs.length)).toArray.toList.take s.length=(c.toList.take s.length).take off++(vs++(c.toList.take s.length).drop (off+t.length)):=by
   simp only[aBl,aBn,hlen];rw[aCv,aCv,aBN,aBN,Nat.min_comm off s.length,aAK (l:=vs) (by simp;omega)];rw[aCq,aAN,hlen,aCh (xs:=c),show s.length-min off c.size-t.length=s.length-(off+t.length) by omega]
  rw[e];exact(e4.take off).app (hv.app (e4.drop _))
abbrev Fr:=PT CV
inductive eQ where
 |tmp (p:Nat)
 |const (v:CV)
def fx (fr:Fr)(p:Nat):CV:=Option.rec .undef (fun v=>v) (fr.get p)
def ev (fr:Fr)(x:eQ):CV:=eQ.rec (fun p=>fx fr p) (fun v=>v) x
def FR (ρ:Ren)(fr:Fr)(tmps:Array Value):Prop:=∀t,VR ρ (fx fr (t)) (tmps.getD t Go.undef)
theorem FR.mono {ρ ρ':Ren}(hle:ρ.le ρ'){fr:Fr}{tmps:Array Value}(h:FR ρ fr tmps):FR ρ' fr tmps:=fun t=>(h t).mono hle
theorem lT (fr:Fr)(p:Nat)(v:CV):fx (fr.put p (some v)) p=v:=by unfold fx;rw[PT.cI]
theorem mh (fr:Fr)(p q:Nat)(x:Option CV)(h:q≠p):fx (fr.put p x) q=fx fr q:=by unfold fx;rw[PT.c9 _ _ _ _ h]
theorem FR.put {ρ:Ren}{fr:Fr}{tmps:Array Value}(h:FR ρ fr tmps){d:Nat}(hd:d<tmps.size){v:CV}{v':Value}(hv:VR ρ v v'):
 FR ρ (fr.put (d) (some v)) (tmps.setIfInBounds d v'):=by
 intro t
 by_cases e:t=d
 ·subst e;rw[lT]
  simpa[hd]using hv
 ·rw[mh _ _ _ _ (fun e'=>e (e'))];have:(tmps.setIfInBounds d v').getD t Go.undef=tmps.getD t Go.undef:=by simp[aBH (aBE e)]
  rw[this];exact h t
def jd (v:Value):Option CV:=
 match v with
 | .bool b=>some (.bool b)
 | .int k n=>some (.int k n)
 | .string s=>some (.str s.data.toList)
 | .pointer none=>some .bq
 | .slice none 0 0=>some .ae
 | .map none=>some .fM
 | .func fn f c=>bu (Bool.and f.isEmpty c.isEmpty) (some (.func fn .nil .nil)) none
 | .nilFunc=>some .lR
 | .nilIface=>some .fW
 | .tuple c=>bu c.isEmpty (some .undef) none
 |_=>none
theorem VR.jd {v:Value}{c:CV}(h:jd v=some c)(ρ:Ren):VR ρ c v:=by
 unfold Lim.jd at h
 split at h<;>try (cases h;done)
 ·cases h;exact .bool _
 ·cases h;exact .int _ _
 ·cases h;rename_i s;have:=VR.str (ρ:=ρ) s.data.toList;rw[vO]at this;exact this
 ·cases h;exact .bq
 ·cases h;exact .ae
 ·cases h;exact .fM
 ·rename_i fn f c;rw[aO]at h
  split at h
  ·rename_i hc;cases h;simp only[aAV,Array.isEmpty_iff]at hc;rw[hc.1,hc.2];exact VR.func fn .nil .nil [] [] rfl rfl (fun i v v' h=>by simp at h) (fun i v v' h=>by simp at h)
  ·cases h
 ·cases h;exact .lR
 ·cases h;exact .fW
 ·rename_i c;rw[aO]at h
  split at h
  ·rename_i hc;cases h;simp only[Array.isEmpty_iff]at hc;rw[hc];exact .undef
  ·cases h
def pQ (l:List Value):Option (List CV):=
 List.rec (some .nil) (fun v _ r=>Option.rec none (fun r=>Option.rec none (fun c=>some (c.cD++r)) (jd v)) r) l
def ofValue (v:Value):Option CV:=
 match v with
 | .agg cs=>Option.rec none (fun s=>some (.agg s)) (pQ cs.toList)
 |v=>jd v
theorem Cs {v:Value}{c:CV}(h:jd v=some c):∀s,c≠ .agg s:=by
 intro s e;subst e;unfold jd at h
 split at h<;>first|(cases h;done)|(rw[aO]at h;split at h<;>cases h)
theorem uY:∀(l:List Value) (s:List CV),pQ l=some s->∀ρ,eu ρ s l:=by
 intro l
 induction l with
 |nil=>intro s h ρ;cases h;exact eu.nil ρ
 |cons v l ih=>
  intro s h ρ;have e:pQ (v::l)=Option.rec none (fun r=>Option.rec none (fun c=>some (c.cD++r)) (jd v)) (pQ l):=rfl;rw[e]at h;cases hl:pQ l with
  |none=>rw[hl]at h;cases h
  |some r=>
   rw[hl]at h;cases hv:jd v with
   |none=>rw[hv]at h;cases h
   |some c=>
    rw[hv]at h;cases h;rw[D6 (Cs hv)];exact eu.cons (VR.jd hv ρ) (ih r hl ρ)
theorem VR.ofValue {v:Value}{c:CV}(h:ofValue v=some c)(ρ:Ren):VR ρ c v:=by
 unfold Lim.ofValue at h
 split at h
 ·rename_i cs;cases hc:pQ cs.toList with
  |none=>rw[hc]at h;cases h
  |some s=>
   rw[hc]at h;cases h;exact VR.Dm (uY _ s hc ρ)
 ·exact VR.jd h ρ
def eU (x:Operand):Option eQ:=
 match x with
 | .tmp t=>some (.tmp (t))
 | .const v=>Option.rec none (fun c=>some (.const c)) (ofValue v)
 | .func f=>some (.const (.func (.func f) .nil .nil))
 | .global _=>none
theorem bk {x:Operand}{c:eQ}(h:eU x=some c){ρ:Ren}{fr:Fr}{a:Act}(hf:FR ρ fr a.tmps):VR ρ (ev fr c) (a.eval x):=by
 cases x with
 |tmp t=>cases h;exact hf t
 |const v=>
  have e:eU (.const v)=Option.rec none (fun c=>some (.const c)) (ofValue v):=rfl;rw[e]at h;cases hv:ofValue v with
  |none=>rw[hv]at h;cases h
  |some c'=>rw[hv]at h;cases h;exact VR.ofValue hv ρ
 |func f=>cases h;exact VR.func _ .nil .nil [] [] rfl rfl (fun i v v' h=>by simp at h) (fun i v v' h=>by simp at h)
 |global g=>cases h
inductive OR where
 |ok (v:CV) (st:St)
 |bad
def bF (P:Program)(s:Sem Value)(ρ:Ren)(st:St)(w:World)(v:CV)(st':St):Prop:=
 ∃v' w' ρ',s.run P w= .ok v' w'/\VR ρ' v v'/\bf ρ st w ρ' st' w'
def BB (P:Program)(s:Sem Unit)(ρ:Ren)(st:St)(w:World)(v:CV)(st':St):Prop:=
 ∃w' ρ',s.run P w= .ok () w'/\v= .undef/\bf ρ st w ρ' st' w'
def Ik (P:Program)(s:Sem Next)(ρ:Ren)(st:St)(w:World)(v:CV)(st':St):Prop:=
 ∃x v' w' ρ',s.run P w= .ok x w'/\(x= .value v'\/(x= .skip/\v'=Go.undef))/\VR ρ' v v'/\bf ρ st w ρ' st' w'
section
variable {P:Program} {ρ:Ren} {st st':St} {w:World} {v:CV}
theorem bF.still {s:Sem Value}{v':Value}(hw:WR ρ st w)(h:s.run P w= .ok v' w)(hv:VR ρ v v'):bF P s ρ st w v st:=⟨v',w,ρ,h,hv,bf.refl hw⟩
theorem bF.gW {s:Sem Value}(h:bF P s ρ st w v st'):Ik P (do pure (Next.value (<-s))) ρ st w v st':=by
 obtain⟨v',w',ρ',h1,h2,h3⟩:=h;exact⟨.value v',v',w',ρ',by simp[h1], .inl rfl,h2,h3⟩
theorem BB.gW {s:Sem Unit}(h:BB P s ρ st w v st'):Ik P (do s;pure Next.skip) ρ st w v st':=by
 obtain⟨w',ρ',h1,rfl,h3⟩:=h;exact⟨.skip,Go.undef,w',ρ',by simp[h1], .inr ⟨rfl,rfl⟩, .undef,h3⟩
def ba (c a b:CV)(st:St):OR:=match c with| .bool t=>bu t (.ok a st) (.ok b st)|_=> .bad
theorem Eo {c a b:CV}{c' a' b':Value}(h:ba c a b st= .ok v st')(hw:WR ρ st w)(hc:VR ρ c c')(ha:VR ρ a a')(hb:VR ρ b b'):
 Ik P (do pure (Next.value (if<-asBool c' then a' else b'))) ρ st w v st':=by
 unfold ba at h
 split at h
 ·rename_i t;cases hc;cases t with
  |true=>cases h;exact⟨_,a',w,ρ,by simp[asBool], .inl rfl,ha,bf.refl hw⟩
  |false=>cases h;exact⟨_,b',w,ρ,by simp[asBool], .inl rfl,hb,bf.refl hw⟩
 ·cases h
theorem bf.newRow {s:List CV}{l:List Value}{t:TypeId}(hw:WR ρ st w)(hs:∀ρ',ρ.le ρ'->eu ρ' s l)(g:Bool):
 ∃ρ',(newRow t l.toArray).run P w= .ok ⟨w.heap.size,0,none⟩ {w with heap:=w.heap.push (.cells l.toArray t)}/\
  ρ' st.next=some (w.heap.size,l.length)/\bf ρ st w ρ' (st.new (.cells s t g)) {w with heap:=w.heap.push (.cells l.toArray t)}:=by
 have gL:∀b x,ρ b=some x->b≠st.next:=fun b x hx e=>by have:=hw.fresh b x hx;rw[e]at this;omega
 have hle:ρ.le (ρ.set st.next (w.heap.size,l.length)):=fun b _ hr=>by rw[Ren.dt _ _ _ _ (gL b _ hr)];exact hr
 have hv:=hs _ hle;have hlen:s.length=l.length:=by rw[hv.len]
 have hb:=BR.cells (ρ:=ρ.set st.next (w.heap.size,l.length)) s t g l.toArray 0 0 (by simp[hlen]) (by
  rw[hlen];simpa using hv) (by omega) (by intros;omega)
 have ha:=bf.new hw (blk:= .cells s t g) (o:= .cells l.toArray t) (sz:=l.length) (by simpa using hb);exact⟨_,rfl,ha.2,ha.1⟩
def dD (t:TypeId)(s:List CV)(st:St):OR:= .ok (.ptr st.next 0) ⟨st.mem.put st.next (some (.cells s t false)),st.next+1⟩
theorem II (t:TypeId)(s:List CV)(st:St):dD t s st= .ok (.ptr st.next 0) (st.new (.cells s t false)):=by
 rfl
theorem Cq {t:TypeId}{z:List CV}{i:TypeInfo}{z':Value}(h:dD t z st= .ok v st')(hw:WR ρ st w)(hi:P.info? t=some i)(hz:i.zero=some z')
 (hc:∀ρ,eu ρ z z'.cells.toList):bF P (Instr.alloc t true (.tuple #[])) ρ st w v st':=by
 rw[II]at h;cases h;obtain⟨ρ',h1,h2,h3⟩:=bf.newRow (P:=P) (t:=t) hw (fun ρ' _=>hc ρ') false;rw[aCf]at h1 h3;refine⟨.pointer (some ⟨w.heap.size,0,none⟩),_,ρ', ?_, .ptr _ _ _ _ h2,h3⟩;simp[Instr.alloc,zeroValue,typeInfo,hi,hz,newVar,h1]
theorem Hq {t:TypeId}{x:CV}{x':Value}(h:bu x.isAny .bad (dD t x.cD st)= .ok v st')(hw:WR ρ st w)(hx:VR ρ x x'):
 bF P (Instr.box t x') ρ st w v st':=by
 rw[aO]at h
 split at h
 ·cases h
 rename_i hna;rw[II]at h;cases h;obtain⟨ρ',h1,h2,h3⟩:=bf.newRow (P:=P) (t:=t) hw (fun ρ' hle=>(hx.mono hle).cD (by simpa using hna)) false;rw[aCf]at h1 h3;refine⟨.pointer (some ⟨w.heap.size,0,none⟩),_,ρ', ?_, .ptr _ _ _ _ h2,h3⟩;simp[Instr.box,newVar,h1]
def aC (p:CV)(st:St):OR:=
 match p with
 | .ptr b off=>(match st.mem.get b with
   |some (.cells s _ _)=>Option.rec .bad (fun v=> .ok v st) (s[off]?)
   |some (.ro s _)=>Option.rec .bad (fun v=> .ok v st) (s[off]?)
   |_=> .bad)
 |_=> .bad
def aI (n:Nat)(p:CV)(st:St):OR:=
 match p with
 | .ptr b off=>(match st.mem.get b with
   |some (.cells s _ _)=>Option.rec .bad (fun v=> .ok (.agg v) st) (ig s off n)
   |some (.ro s _)=>Option.rec .bad (fun v=> .ok (.agg v) st) (ig s off n)
   |_=> .bad)
 |_=> .bad
theorem rV {s:List CV}{l:List Value}(h:eu ρ s l){off:Nat}{x:CV}(hx:s[off]?=some x):∃x',l[off]?=some x'/\VR ρ x x':=by
 exact h.get hx
theorem uF {l:List Value}{n i:Nat}{x:Value}(h:(l.take n)[i]?=some x):l[i]?=some x:=by
 rw[aCB]at h;split at h
 ·exact h
 ·cases h
theorem Cj {t:TypeId}{p:CV}{p':Value}(h:aC p st= .ok v st')(hw:WR ρ st w)(hp:VR ρ p p')(ht:(isAgg t).run P w= .ok false w):
 bF P (Instr.loadAt t p') ρ st w v st':=by
 unfold aC at h
 split at h
 ·rename_i b off
  split at h
  ·rename_i s t' g hm;cases hx:s[off]? with
   |none=>rw[hx]at h;cases h
   |some x=>
    rw[hx]at h;cases h;cases hp with
    |ptr _ _ r sz hr=>
     obtain⟨c,lo,hi,e1,e2,e3,e4,e5⟩:=hw.row hm hr;obtain⟨x',g1,g2⟩:=rV e4 hx;refine bF.still hw ?_ g2;simp[Instr.loadAt,Instr.sureAddr,loadVar,ht,mQ P w r off c t' (lo,hi) x' e1 (uF g1),-run_load]
  ·rename_i s o0 hm;cases hx:s[off]? with
   |none=>rw[hx]at h;cases h
   |some x=>
    rw[hx]at h;cases h;cases hp with
    |ptr _ _ r sz hr=>
     obtain⟨c,t',lo,hi,e1,e2,e3,e4⟩:=hw.Mv hm hr;obtain⟨x',g1,g2⟩:=rV e4 hx;refine bF.still hw ?_ g2;simp[Instr.loadAt,Instr.sureAddr,loadVar,ht,mQ P w r off c t' (lo,hi) x' e1 (uF g1),-run_load]
  ·cases h
 ·cases h
theorem Ci {t:TypeId}{n:Nat}{p:CV}{p':Value}(h:aI n p st= .ok v st')(hw:WR ρ st w)(hp:VR ρ p p')(ht:(isAgg t).run P w= .ok true w)
 (hn:(Go.sizeOf t).run P w= .ok n w):bF P (Instr.loadAt t p') ρ st w v st':=by
 unfold aI at h
 split at h
 ·rename_i b off
  split at h
  ·rename_i s t' g hm;cases hx:ig s off n with
   |none=>rw[hx]at h;cases h
   |some x=>
    rw[hx]at h;cases h;cases hp with
    |ptr _ _ r sz hr=>
     obtain⟨c,lo,hi,e1,e2,e3,e4,e5⟩:=hw.row hm hr;obtain⟨g1,g2⟩:=jw hx;refine bF.still hw (v':= .agg ((c.toList.drop off).take n).toArray) ?_ (VR.Dm ?_)
     ·simp[Instr.loadAt,Instr.sureAddr,loadVar,ht,hn,dU P w r off n c t' (lo,hi) e1 (by omega)]
     ·rw[show x=(s.drop off).take n from g2]
      have e:(c.toList.drop off).take n=((c.toList.take s.length).drop off).take n:=by
       rw[aCq,aBN,aBq (by omega)]
      rw[e];exact(e4.drop off).take n
  ·rename_i s o0 hm;cases hx:ig s off n with
   |none=>rw[hx]at h;cases h
   |some x=>
    rw[hx]at h;cases h;cases hp with
    |ptr _ _ r sz hr=>
     obtain⟨c,t',lo,hi,e1,e2,e3,e4⟩:=hw.Mv hm hr;obtain⟨g1,g2⟩:=jw hx;refine bF.still hw (v':= .agg ((c.toList.drop off).take n).toArray) ?_ (VR.Dm ?_)
     ·simp[Instr.loadAt,Instr.sureAddr,loadVar,ht,hn,dU P w r off n c t' (lo,hi) e1 (by omega)]
     ·rw[show x=(s.drop off).take n from g2]
      have e:(c.toList.drop off).take n=((c.toList.take s.length).drop off).take n:=by
       rw[aCq,aBN,aBq (by omega)]
      rw[e];exact(e4.drop off).take n
  ·cases h
 ·cases h
def aP (n:Nat)(p x:CV)(st:St):OR:=
 match p with
 | .ptr b off=>(match st.mem.get b with
   |some (.cells s t g)=>(fun xs=>bu (Bool.and (Nat.beq xs.length n) (aV xs)) (Option.rec .bad (fun s'=> .ok .undef ⟨st.mem.put b (some (.cells s' t g)),st.next⟩) (dQ s off xs)) .bad) x.cD
   |_=> .bad)
 |_=> .bad
theorem Cf {t:TypeId}{n:Nat}{p x:CV}{p' x':Value}(h:aP n p x st= .ok v st')(hw:WR ρ st w)(hp:VR ρ p p')(hx:VR ρ x x')
 (hn:(Go.sizeOf t).run P w= .ok n w):BB P (Instr.storeAt t p' x') ρ st w v st':=by
 unfold aP at h
 split at h
 ·rename_i b off
  split at h
  ·rename_i s t' g hm;simp only[aO,aAV,aBi]at h
   split at h
   ·rename_i hc;cases hs:dQ s off x.cD with
    |none=>rw[hs]at h;cases h
    |some s'=>
     rw[hs]at h;cases h;cases hp with
     |ptr _ _ r sz hr=>
      obtain⟨w',h1,h2⟩:=bf.write (P:=P) hw hm hr hs (hx.cD (A0 hc.2)) hc.2;refine⟨w',ρ, ?_,rfl,h2⟩;have hl:x'.cells.size=n:=by have:=(hx.cD (A0 hc.2)).len;rw[hc.1]at this;simpa using this.symm
      simp[Instr.storeAt,Instr.sureAddr,storeVar,hn,hl,h1]
   ·cases h
  ·cases h
 ·cases h
def dH (x:CV)(st:St):OR:=match x with| .ptr .. | .iface .. | .func (.func _) _ _=> .ok x st|_=> .bad
theorem Hm {x:CV}{x':Value}(h:dH x st= .ok v st')(hw:WR ρ st w)(hx:VR ρ x x'){o:Oper}{y:Operand}{f:Operand->Value}(ho:o.op= .nilCheck y)(hy:f y=x'):
 Ik P (execOp f o) ρ st w v st':=by
 unfold dH at h
 have key:∀{z:Value},f y=z->(match z with| .pointer none| .nilIface| .nilFunc| .func (.method _) _ _=>False|_=>True)->(execOp f o).run P w= .ok (.value z) w:=by
  intro z hz hn;unfold execOp;rw[ho];simp only[hz]
  split<;>first|(exact hn.elim)|rfl
 split at h
 ·cases h;cases hx with|ptr _ _ _ _ hr=>exact⟨_,_,w,ρ,key hy trivial, .inl rfl, .ptr _ _ _ _ hr,bf.refl hw⟩
 ·cases h;cases hx with|iface _ _ _ hr=>exact⟨_,_,w,ρ,key hy trivial, .inl rfl, .iface _ _ _ hr,bf.refl hw⟩
 ·cases h;have Ak:=hx;cases hx with|func _ _ _ f' c' hf hc h1 h2=>exact⟨_,_,w,ρ,key hy trivial, .inl rfl,Ak,bf.refl hw⟩
 ·cases h
def az (x:CV)(i:Nat)(st:St):OR:=match x with| .tuple s=>Option.rec .bad (fun v=> .ok v st) (s[i]?)|_=> .bad
theorem yv {x:CV}{x':Value}{i:Nat}(h:az x i st= .ok v st')(hw:WR ρ st w)(hx:VR ρ x x'):bF P (Instr.extract x' i) ρ st w v st':=by
 unfold az at h
 split at h
 ·rename_i s;cases hs:s[i]? with
  |none=>rw[hs]at h;cases h
  |some y=>
   rw[hs]at h;cases h;cases hx with
   |tuple _ l hl hh=>
    obtain⟨y',g1,g2⟩:=rV (ρ:=ρ) (s:=s) ⟨hl,hh⟩ hs;refine bF.still hw ?_ g2;simp[Instr.extract,g1]
 ·cases h
end
mutual
inductive jL where
 |bool|int|str|ptr|iface|slice|map|func
 |bytes (len:Nat)
 |struct (fs:Ux)
 |array (len size:Nat) (agg:Bool) (e:jL)
inductive Ux where
 |nil
 |cons (off size:Nat) (agg:Bool) (d:jL) (r:Ux)
end
def Qj (v:CV):Option UInt8:=match v with| .int .u8 (.ofNat n)=>if n<256 then some (.ofNat n)else none|_=>none
def Gh:List CV->Option (List UInt8)
 |[]=>some []
 |v::r=>match Qj v,Gh r with|some b,some l=>some (b::l)|_,_=>none
theorem GC (b:UInt8):Qj (bO b)=some b:=by
 have h:b.toNat<256:=b.toNat_lt;show(if b.toNat<256 then some (UInt8.ofNat b.toNat)else none)=some b;rw[aAI h];simp
theorem BE (l:List UInt8):Gh (l.map bO)=some l:=by
 induction l with
 |nil=>rfl
 |cons b l ih=>simp[Gh,GC,ih]
theorem JK {v:CV}{b:UInt8}(h:Qj v=some b):v=bO b:=by
 unfold Qj at h
 split at h
 ·rename_i n
  split at h
  ·rename_i hn;cases h;show CV.int .u8 (.ofNat n)= .int .u8 (.ofNat (UInt8.ofNat n).toNat);rw[UInt8.toNat_ofNat',aCw (by omega)]
  ·cases h
 ·cases h
theorem uE:∀{s:List CV} {l:List UInt8},Gh s=some l->s=l.map bO:=by
 intro s
 induction s with
 |nil=>intro l h;cases h;rfl
 |cons v r ih=>
  intro l h;simp only[Gh]at h
  split at h
  ·rename_i b l' h1 h2;cases h;rw[aBh,JK h1,<-ih h2]
  ·cases h
def iR (agg:Bool)(off size:Nat)(s:List CV):Option CV:=
 bu agg (Option.rec none (fun t=>some (.agg t)) (ig s off size)) (s[off]?)
def andThen (a:Option Bool)(b:Option Bool):Option Bool:=Option.rec none (fun t=>bu t b (some false)) a
mutual
def mK:jL->CV->CV->Option Bool
 | .bool,x,y=>(match x,y with| .bool a, .bool b=>some (a==b)|_,_=>none)
 | .int,x,y=>(match x,y with| .int j a, .int k b=>bu (decide (j=k)) (some (decide (a=b))) none|_,_=>none)
 | .str,x,y=>(match x,y with| .str a, .str b=>some (a==b)|_,_=>none)
 | .ptr,x,y=>(match x,y with
   | .bq, .bq=>some true
   | .bq, .ptr _ _=>some false
   | .ptr _ _, .bq=>some false
   | .ptr b o, .ptr b' o'=>bu (decide (b=b')) (some (Nat.beq o o')) none
   |_,_=>none)
 | .iface,x,y=>(match x,y with
   | .fW, .fW=>some true
   | .fW, .iface _ _=>some false
   | .iface _ _, .fW=>some false
   |_,_=>none)
 | .slice,x,y=>(match x,y with
   | .ae, .ae=>some true
   | .ae, .slice .. =>some false
   | .slice .., .ae=>some false
   |_,_=>none)
 | .map,x,y=>(match x,y with
   | .fM, .fM=>some true
   | .fM, .map _=>some false
   | .map _, .fM=>some false
   |_,_=>none)
 | .func,x,y=>(match x,y with
   | .lR, .lR=>some true
   | .lR, .func .. =>some false
   | .func .., .lR=>some false
   |_,_=>none)
 | .bytes len,x,y=>(match x,y with
   | .agg s, .agg t=>(match Gh s,Gh t with|some a,some b=>bu (decide (a.length=len)&&decide (b.length=len)) (some (a==b)) none|_,_=>none)
   |_,_=>none)
 | .struct fs,x,y=>(match x,y with| .agg s, .agg t=>Df fs s t|_,_=>none)
 | .array len size agg e,x,y=>(match x,y with
   | .agg s, .agg t=>Nat.rec (motive:=fun _=>Nat->Option Bool) (fun _=>some true)
    (fun _ ih off=>Option.rec none (fun a=>Option.rec none (fun b=>andThen (mK e a b) (ih (Nat.add off size))) (iR agg off size t)) (iR agg off size s)) len 0
   |_,_=>none)
def Df:Ux->List CV->List CV->Option Bool
 | .nil,_,_=>some true
 | .cons off size agg d r,s,t=>Option.rec none (fun a=>Option.rec none (fun b=>andThen (mK d a b) (Df r s t)) (iR agg off size t)) (iR agg off size s)
end
def ib (u:TypeDesc):Bool:=match u with| .struct _| .array _ _=>true|_=>false
def oo (P:Program)(desc:TypeId->Option jL)(fs:List Field):Option Ux:=
 match fs with
 |[]=>some .nil
 |f::r=>
  match decide (f.name= "_"),P.info? f.type,(P.underlying f.type),desc f.type,oo P desc r with
  |false,some i,some u,some d,some r=>some (.cons f.offset i.size (ib u) d r)
  |_,_,_,_,_=>none
def fN (P:Program):Nat->TypeId->Option jL
 |0,_=>none
 |n+1,t=>
  match P.underlying t with
  |some .bool=>some .bool
  |some (.int _)=>some .int
  |some .string=>some .str
  |some (.pointer e)=>(match P.info? e with|some i=>bu (Nat.beq i.size 0) none (some .ptr)|none=>none)
  |some (.interface _)=>some .iface
  |some (.slice _)=>some .slice
  |some (.map _ _)=>some .map
  |some (.func _ _ _)=>some .func
  |some (.struct fs)=>bu (P.stoodInHeld t) none (match oo P (fN P n) fs.toList with|some l=>some (.struct l)|none=>none)
  |some (.array len e)=>
   (match P.info? e,P.underlying e with
   |some i,some (.int .u8)=>bu (Nat.beq i.size 1) (some (.bytes len)) none
   |some i,some u=>(match fN P n e with|some d=>some (.array len i.size (ib u) d)|none=>none)
   |_,_=>none)
  |_=>none
section
variable {P:Program} {ρ:Ren} {w:World}
theorem iq {agg:Bool}{off size:Nat}{s:List CV}{x:CV}(h:iR agg off size s=some x){l:List Value}(hs:eu ρ s l){t:TypeId}{i:TypeInfo}{u:TypeDesc}
 (hi:P.info? t=some i) (hn:i.size=size) (hu:P.underlying t=some u) (ha:(ib u)=agg):
 ∃x',(part t l.toArray off).run P w= .ok x' w/\VR ρ x x':=by
 have h1:(isAgg t).run P w= .ok agg w:=by
  subst ha;cases u<;>simp[isAgg,aAL hu,ib]
 unfold iR at h;rw[aO]at h
 split at h
 ·rename_i hb;cases he:ig s off size with
  |none=>rw[he]at h;cases h
  |some y=>
   rw[he]at h;cases h;obtain⟨g1,g2⟩:=jw he;refine⟨.agg ((l.drop off).take size).toArray, ?_,VR.Dm ?_⟩
   ·simp[part,h1,hb,Go.sizeOf,typeInfo,hi,hn]
   ·rw[show y=(s.drop off).take size from g2];exact(hs.drop off).take size
 ·rename_i hb;obtain⟨x',g1,g2⟩:=rV hs h;have py:agg=false:=by simpa using hb
  exact⟨x',by simp[part,h1,py,g1],g2⟩
theorem VR.sH {l:List UInt8}{x':Value}(h:VR ρ (.agg (l.map bO)) x'):x'= .agg (l.map Extern.Stop.cell).toArray:=by
 cases h with
 |agg s m hl hh=>
  congr 2
  apply aCF;intro i;simp only[aBJ]at hl
  by_cases hi:i<l.length
  ·have h2:=hh i _ m[i] (by rw[aBw,aAC hi];rfl) (by simp);cases h2h:m[i]with
   |int k q=>
    rw[h2h]at h2;cases h2;rw[aBw,aAC hi,aAC (by omega),h2h];rfl
   |_=>rw[h2h]at h2;cases h2
  ·rw[aBs (by omega),aBs (by simp;omega)]
def Dp (P:Program)(w:World)(ρ:Ren)(d:jL)(t:TypeId)(n:Nat):Prop:=
 ∀(x y:CV) (x' y':Value) (b:Bool),mK d x y=some b->VR ρ x x'->VR ρ y y'->(Op.equalIn n t x' y').run P w= .ok b w
theorem Ic (len size:Nat)(agg:Bool)(e:jL){t:TypeId}{i:TypeInfo}{u:TypeDesc}{n:Nat}(hi:P.info? t=some i)(hn:i.size=size)(hu:P.underlying t=some u)
 (ha:(ib u)=agg) (hf:Dp P w ρ e t n) {s s2:List CV} {l l2:List Value} (h1:eu ρ s l) (h2:eu ρ (row s2) l2):
 ∀(j:Nat) (b:Bool),Nat.rec (motive:=fun _=>Nat->Option Bool) (fun _=>some true)
  (fun _ ih off=>Option.rec none (fun a=>Option.rec none (fun b=>andThen (mK e a b) (ih (Nat.add off size))) (iR agg off size s2)) (iR agg off size s)) len (j*size)=some b->
  (Op.eqItems n t size l.toArray l2.toArray (List.range' j len)).run P w= .ok b w:=by
 induction len with
 |zero=>intro j b h;cases h;simp[Op.eqItems]
 |succ len ih=>
  intro j b h;rw[List.range'_succ];simp only at h;cases hx:iR agg (j*size) size s with
  |none=>rw[hx]at h;cases h
  |some x=>
   cases hy:iR agg (j*size) size s2 with
   |none=>rw[hx,hy]at h;cases h
   |some y=>
    rw[hx,hy]at h;simp only at h;cases hq:mK e x y with
    |none=>rw[hq]at h;cases h
    |some q=>
     rw[hq]at h;obtain⟨x',p1,v1⟩:=iq (P:=P) (w:=w) hx h1 hi hn hu ha;obtain⟨y',p2,v2⟩:=iq (P:=P) (w:=w) hy h2 hi hn hu ha;have hr:=hf x y x' y' q hq v1 v2;simp only[Op.eqItems,Sem.run_bind,p1,p2,hr,Result.andThen_ok];cases q with
     |false=>cases h;simp
     |true=>
      have:=ih (j+1) b (by rw[aBI,aCH];exact h)
      simpa using this
theorem Ib {n:Nat}{desc:TypeId->Option jL}(hf:∀t d,desc t=some d->Dp P w ρ d t n){s s2:List CV}{l l2:List Value}(h1:eu ρ s l)(h2:eu ρ (row s2) l2):
 ∀(fs:List Field) (r:Ux) (b:Bool),oo P desc fs=some r->Df r s s2=some b->(Op.eqFields n l.toArray l2.toArray fs).run P w= .ok b w:=by
 intro fs
 induction fs with
 |nil=>intro r b h hb;cases h;simp only[Df,aCa]at hb;subst hb;simp[Op.eqFields]
 |cons f fs ih=>
  intro r b h hb;simp only[oo]at h
  split at h
  ·rename_i i u d r' gL hi hu hd hr;cases h;have akA:f.name≠ "_" :=by simpa using gL
   simp only[Df]at hb;cases hx:iR (ib u) f.offset i.size s with
   |none=>rw[hx]at hb;cases hb
   |some x=>
    cases hy:iR (ib u) f.offset i.size s2 with
    |none=>rw[hx,hy]at hb;cases hb
    |some y=>
     rw[hx,hy]at hb;simp only at hb;cases hq:mK d x y with
     |none=>rw[hq]at hb;cases hb
     |some q=>
      rw[hq]at hb;obtain⟨x',p1,v1⟩:=iq (P:=P) (w:=w) hx h1 hi rfl hu rfl;obtain⟨y',p2,v2⟩:=iq (P:=P) (w:=w) hy h2 hi rfl hu rfl;have jx:=hf f.type d hd x y x' y' q hq v1 v2;simp only[Op.eqFields,akA,ne_eq,not_false_eq_true,aAY,Sem.run_bind,p1,p2,jx,Result.andThen_ok];cases q with
      |false=>cases hb;simp
      |true=>simpa using ih r' b hr hb
  ·cases h
theorem OJ:∀(f:Nat) (t:TypeId) (d:jL),fN P f t=some d->∀n,f<n->Dp P w ρ d t n:=by
 intro f
 induction f with
 |zero=>intro t d h;cases h
 |succ f ih=>
  intro t d h n hn x y x' y' b hb hx hy;obtain⟨m,rfl⟩:∃m,n=m+1:=⟨n-1,by omega⟩;simp only[fN]at h
  split at h
  ·
    rename_i hu;cases h;simp only[mK]at hb
    split at hb
    ·cases hx;cases hy;cases hb;rename_i a b;rw[run_equalIn_bool' w m t a b hu]
    ·cases hb
  ·rename_i k hu;cases h;simp only[mK]at hb
   split at hb
   ·rw[aO]at hb
    split at hb
    ·rename_i hk;rw[EJ]at hk;subst hk;cases hx;cases hy;cases hb;rw[run_equalIn_int w m t _ _ _ _ hu];rfl
    ·cases hb
   ·cases hb
  ·rename_i hu;cases h;simp only[mK]at hb
   split at hb
   ·cases hx;cases hy;cases hb;rename_i a b;rw[run_equalIn_string w m t _ _ hu]
    congr 1
    rw[aDg,beq_iff_eq,beq_iff_eq,ByteArray.toList_eq,ByteArray.toList_eq];simp[fG]
   ·cases hb
  ·rename_i e hu
   split at h
   ·rename_i i hi;rw[aO]at h
    split at h
    ·cases h
    ·rename_i hz;cases h;have hz':i.size≠0:=by simpa using hz
     have hs:(Go.sizeOf e).run P w= .ok i.size w:=by simp[Go.sizeOf,typeInfo,hi]
     simp only[mK]at hb
     split at hb
     ·cases hx;cases hy;cases hb;simp[Op.equalIn,aAL hu]
     ·cases hx;cases hy;cases hb;simp[Op.equalIn,aAL hu]
     ·cases hx;cases hy;cases hb;simp[Op.equalIn,aAL hu]
     ·rename_i b1 o1 b2 o2;rw[aO]at hb
      split at hb
      ·rename_i hq;simp only[aBR]at hq;subst hq
       cases hx with|ptr _ _ r sz hr=>cases hy with|ptr _ _ r2 sz2 Be=>
        rw[hr]at Be;cases Be;cases hb
        have e:((⟨r,o1,none⟩:Addr)==⟨r,o2,none⟩)=Nat.beq o1 o2:=by
         rw[aDg,beq_iff_eq,aBi];simp
        simp[Op.equalIn,aAL hu,hs,hz',sameAddr,e]
      ·cases hb
     ·cases hb
   ·cases h
  ·rename_i ms hu;cases h;simp only[mK]at hb
   split at hb
   ·cases hx;cases hy;cases hb;simp[Op.equalIn,aAL hu]
   ·cases hx;cases hy;cases hb;simp[Op.equalIn,aAL hu]
   ·cases hx;cases hy;cases hb;simp[Op.equalIn,aAL hu]
   ·cases hb
  ·rename_i e hu;cases h;simp only[mK]at hb
   split at hb
   ·cases hx;cases hy;cases hb;simp[Op.equalIn,aAL hu]
   ·cases hx;cases hy<;>cases hb<;>simp[Op.equalIn,aAL hu]
   ·cases hy;cases hx<;>cases hb<;>simp[Op.equalIn,aAL hu]
   ·cases hb
  ·rename_i k e hu;cases h;simp only[mK]at hb
   split at hb
   ·cases hx;cases hy;cases hb;simp[Op.equalIn,aAL hu]
   ·cases hx;cases hy;cases hb;simp[Op.equalIn,aAL hu]
   ·cases hx;cases hy;cases hb;simp[Op.equalIn,aAL hu]
   ·cases hb
  ·rename_i ps rs vv hu;cases h;simp only[mK]at hb
   split at hb
   ·cases hx;cases hy;cases hb;simp[Op.equalIn,aAL hu]
   ·cases hx;cases hy;cases hb;simp[Op.equalIn,aAL hu]
   ·cases hx;cases hy;cases hb;simp[Op.equalIn,aAL hu]
   ·cases hb
  ·
    rename_i fs hu;rw[aO]at h
    split at h
    ·cases h
    ·rename_i hst;have ajJ:P.stoodInHeld t=false:=by simpa using hst
     split at h
     ·rename_i l hl;cases h;simp only[mK]at hb
      split at hb
      ·rename_i s1 s2
       cases hx with|agg _ l1 wb RN=>cases hy with|agg _ l2 Dv hh2=>
        have hfo:P.fieldsOf t=fs:=by simp[Program.fieldsOf,hu]
        rw[run_equalIn_agg w m t _ _ (by rw[hfo];exact hu) ajJ,hfo];exact Ib (fun t' d' hd=>ih t' d' hd m (by omega)) ⟨wb,RN⟩ ⟨Dv,hh2⟩ fs.toList l b hl hb
      ·cases hb
     ·cases h
  ·
    rename_i len e hu
    split at h
    ·rename_i i hi LB;rw[aO]at h
     split at h
     ·rename_i h1;rw[aBi]at h1;cases h;simp only[mK]at hb
      split at hb
      ·rename_i s1 s2
       split at hb
       ·rename_i a b2 ha Gu;rw[aO]at hb
        split at hb
        ·rename_i hq;simp only[aAV,aBR]at hq;obtain⟨q1,q2⟩:=hq;cases hb;have e1:=uE ha;have e2:=uE Gu;subst e1;subst e2;rw[hx.sH,hy.sH];obtain⟨m',rfl⟩:∃m',m=m'+1:=⟨m-1,by omega⟩;rw[run_equalIn_bytes w m' t e _ hu LB (fun w=>by simp[Go.sizeOf,typeInfo,hi,h1]) _ _ q1 q2]
        ·cases hb
       ·cases hb
      ·cases hb
     ·cases h
    ·rename_i i u gL hi LB
     split at h
     ·rename_i d' hd;cases h;simp only[mK]at hb
      split at hb
      ·rename_i s1 s2
       cases hx with|agg _ l1 wb RN=>cases hy with|agg _ l2 Dv hh2=>
        rw[run_equalIn_array w m _ _ hu hi,List.range_eq_range'];have tB:P.cellsOf e=i.size:=by simp[Program.cellsOf,hi]
        rw[tB];have:=Ic (P:=P) (w:=w) (ρ:=ρ) len i.size _ d' hi rfl LB rfl (ih e d' hd m (by omega)) (s:=s1) (s2:=s2) (l:=l1) (l2:=l2) ⟨wb,RN⟩ ⟨Dv,hh2⟩ 0 b (by simpa using hb);exact this
      ·cases hb
     ·cases h
    ·cases h
  ·cases h
end
abbrev xC (k:IntKind)(st:St)(r:Nat):OR:= .ok (.int k (r:Int)) st
def ln (op:BinOp)(k:IntKind)(a b:Int)(st:St):OR:=
 match op with
 | .add=> .ok (.int k (k.wrap (a+b))) st
 | .sub=> .ok (.int k (k.wrap (a-b))) st
 | .mul=> .ok (.int k (k.wrap (a*b))) st
 | .quo=>if b=0 then .bad else .ok (.int k (k.wrap (Int.tdiv a b))) st
 | .rem=>if b=0 then .bad else .ok (.int k (Int.tmod a b)) st
 | .eql=> .ok (.bool (decide (a=b))) st
 | .neq=> .ok (.bool (!decide (a=b))) st
 | .lss=> .ok (.bool (decide (a<b))) st
 | .leq=> .ok (.bool (decide (a<=b))) st
 | .gtr=> .ok (.bool (decide (b<a))) st
 | .geq=> .ok (.bool (decide (b<=a))) st
 | .shl| .shr=> .bad
 |op=>(match jA op k a b with|some r=> .ok (.int k r) st|none=> .bad)
def ju (op:BinOp)(k:IntKind)(a:Int)(j:IntKind)(b:Int)(st:St):OR:=
 match op with
 | .shl=>if b<0 then .bad else .ok (.int k (k.wrap (a*2^(min b.toNat k.bits)))) st
 | .shr=>if b<0 then .bad else .ok (.int k (a.fdiv (2^(min b.toNat k.bits)))) st
 |op=>if k=j then ln op k a b st else .bad
section
variable {P:Program} {ρ:Ren} {st st':St} {w:World} {v:CV}
theorem yc (op:BinOp)(t:TypeId)(k:IntKind)(a b r:Int)(CL:op= .and\/op= .or\/op= .xor\/op= .andNot)(h:jA op k a b=some r):
 (binOp op t (.int k a) (.int k b)).run P w= .ok (.int k r) w:=by
 have:=wJ P w op k a b r h;rcases CL with rfl|rfl|rfl|rfl<;>simpa[binOp]using this
theorem Ho {op:BinOp}{t:TypeId}{k j:IntKind}{a b:Int}(h:ju op k a j b st= .ok v st')(hw:WR ρ st w):
 bF P (binOp op t (.int k a) (.int j b)) ρ st w v st':=by
 have fin:∀{s:Sem Value} {r:Int},s.run P w= .ok (.int k r) w->bF P s ρ st w (.int k r) st:=fun hr=>bF.still hw hr (.int _ _);have wk:∀{s:Sem Value} {r:Bool},s.run P w= .ok (.bool r) w->bF P s ρ st w (.bool r) st:=fun hr=>bF.still hw hr (.bool _);unfold ju at h
 split at h
 ·split at h
  ·cases h
  ·rename_i hb;cases h;refine fin ?_;simp[binOp,Op.shift,hb]
 ·split at h
  ·cases h
  ·rename_i hb;cases h;refine fin ?_;simp[binOp,Op.shift,hb]
 ·rename_i Bf YY
  split at h
  ·rename_i hk;subst hk;unfold ln at h
   split at h
   ·cases h;exact fin (by simp[binOp,Op.intArith]<;>rfl)
   ·cases h;exact fin (by simp[binOp,Op.intArith]<;>rfl)
   ·cases h;exact fin (by simp[binOp,Op.intArith]<;>rfl)
   ·split at h
    ·cases h
    ·rename_i hz;cases h;exact fin (by simp[binOp,Op.intDiv,hz])
   ·split at h
    ·cases h
    ·rename_i hz;cases h;exact fin (by simp[binOp,Op.intDiv,hz])
   ·cases h;exact wk (by simp[binOp,Op.intCmp];rfl)
   ·cases h;exact wk (by simp[binOp,Op.intCmp,bne];rfl)
   ·cases h;exact wk (by simp only[binOp,Op.intCmp];first|rfl|(simp;done))
   ·cases h;exact wk (by simp only[binOp,Op.intCmp];first|rfl|(simp;done))
   ·cases h;exact wk (by simp only[binOp,Op.intCmp];first|rfl|(simp;done))
   ·cases h;exact wk (by simp only[binOp,Op.intCmp];first|rfl|(simp;done))
   ·cases h
   ·cases h
   ·split at h
    ·rename_i r hr;cases h;refine fin (yc _ t k a b r ?_ hr);cases op<;>simp_all[jA]
    ·cases h
  ·cases h
def qY (op:BinOp)(a b:List UInt8)(st:St):OR:=
 match op with
 | .add=>if a.length+b.length<=9223372036854775807 then .ok (.str (a++b)) st else .bad
 | .eql=> .ok (.bool (a==b)) st
 | .neq=> .ok (.bool (!(a==b))) st
 | .lss=> .ok (.bool (Op.bytesLess a b)) st
 | .leq=> .ok (.bool (Op.bytesLess a b||(a==b))) st
 | .gtr=> .ok (.bool (!(Op.bytesLess a b||(a==b)))) st
 | .geq=> .ok (.bool (!(Op.bytesLess a b))) st
 |_=> .bad
theorem DM (a b:List UInt8):fG a++fG b=fG (a++b):=by
 apply ByteArray.ext;show(_:ByteArray).data=_;simp[fG,ByteArray.data_append]
theorem j8 (a:List UInt8):(fG a).toList=a:=by rw[ByteArray.toList_eq];simp[fG]
theorem Hl {op:BinOp}{t:TypeId}{a b:List UInt8}(h:qY op a b st= .ok v st')(hw:WR ρ st w):
 bF P (binOp op t (.string (fG a)) (.string (fG b))) ρ st w v st':=by
 have wk:∀{s:Sem Value} {r:Bool},s.run P w= .ok (.bool r) w->bF P s ρ st w (.bool r) st:=fun hr=>bF.still hw hr (.bool _);unfold qY at h
 split at h
 ·split at h
  ·rename_i hle;cases h;refine bF.still hw (v':= .string (fG a++fG b)) ?_ (by rw[DM];exact .str _);have hm:IntKind.i64.max=9223372036854775807:=by decide
   have:¬((((fG a).size+(fG b).size:Nat):Int)>IntKind.i64.max):=by
    rw[j9,j9,hm];omega
   simp only[binOp,Op.stringOp];rw[aAH this];rfl
  ·cases h
 ·cases h;exact wk (by simp[binOp,Op.stringOp,j8])
 ·cases h;exact wk (by simp[binOp,Op.stringOp,j8])
 ·cases h;exact wk (by simp[binOp,Op.stringOp,j8])
 ·cases h;exact wk (by simp[binOp,Op.stringOp,j8])
 ·cases h;exact wk (by simp[binOp,Op.stringOp,j8])
 ·cases h;exact wk (by simp[binOp,Op.stringOp,j8])
 ·cases h
def KX (d:jL)(zQ:Bool)(x y:CV):Option Bool:=match x,y with| .fW, .fW=>bu zQ (mK d x y) none|_,_=>mK d x y
def FU (d:jL):Bool:=match d with| .bytes _| .struct _| .array .. =>true|_=>false
def Yy (op:BinOp)(d:jL)(zQ:Bool)(x y:CV)(st:St):OR:=
 match op,KX d zQ x y with
 | .eql,some b=> .ok (.bool b) st
 | .neq,some b=> .ok (.bool (!b)) st
 |_,_=> .bad
def uS (op:BinOp)(k:IntKind)(a:Int)(m:Nat)(st:St):OR:=
 match op,k with
 | .gtr, .i64=>bu (decide ((m:Int)<a)) .bad (.ok (.bool false) st)
 |_,_=> .bad
def aj (op:BinOp)(d:Option jL)(zQ:Bool)(x y:CV)(st:St):OR:=
 match x,y with
 | .int k a, .int j b=>ju op k a j b st
 | .str a, .str b=>qY op a b st
 | .int k a, .gN m=>uS op k a m st
 | .gN _,_=> .bad
 |_, .gN _=> .bad
 | .any,_=> .bad
 |_, .any=> .bad
 |x,y=>(match d with|some d=>Yy op d zQ x y st|none=> .bad)
def Jx (x y:Operand):Bool:=(match x with| .const _=>true|_=>false)||(match y with| .const _=>true|_=>false)
theorem lU {op:BinOp}{t:TypeId}{X Y:Operand}{a b:Value}(h1:¬(a= .nilIface/\b= .nilIface))(h2:∀c d,¬(a= .agg c/\b= .agg d)):
 (eqGuard op t X Y a b).run P w= .ok () w:=by
 cases op<;>first
  |rfl
  |(simp only[eqGuard,aAU,aAz,aAO]
    split
    ·exact absurd ⟨rfl,rfl⟩ h1
    ·exact absurd ⟨rfl,rfl⟩ (h2 _ _)
    ·rfl)
theorem Fy {op:BinOp}{t:TypeId}{X Y:Operand}(h:Jx X Y=true):(eqGuard op t X Y .nilIface .nilIface).run P w= .ok () w:=by
 cases X<;>cases Y<;>first|(simp[Jx]at h;done)|(cases op<;>rfl)
theorem Sp {d:jL}{x y:CV}{b:Bool}(h:mK d x y=some b){s:List CV}(hx:x= .agg s):FU d=true:=by
 subst hx;cases d<;>simp[FU,mK]at h⊢
theorem Hr {op:BinOp}{t:TypeId}{d:Option jL}{zQ:Bool}{x y:CV}{x' y':Value}{X Y:Operand}{f:Nat}(h:aj op d zQ x y st= .ok v st')(hw:WR ρ st w)(hx:VR ρ x x')(hy:VR ρ y y')
 (hd:∀e,d=some e->fN P f t=some e) (hf:f<10000) (hc:zQ=Jx X Y) (hg:∀e,d=some e->FU e=true->P.eqGuardType P.depth t=false):
 bF P (do eqGuard op t X Y x' y';binOp op t x' y') ρ st w v st':=by
 have quiet:∀{a b:Value},(eqGuard op t X Y a b).run P w= .ok () w->bF P (binOp op t a b) ρ st w v st'->bF P (do eqGuard op t X Y a b;binOp op t a b) ρ st w v st':=by
  intro a b hq hd;obtain⟨v',w',ρ',h1,h2,h3⟩:=hd;exact⟨v',w',ρ',by simp[hq,h1],h2,h3⟩
 unfold aj at h
 split at h
 ·cases hx;cases hy;exact quiet (lU (by simp) (by simp)) (Ho h hw)
 ·cases hx;cases hy;exact quiet (lU (by simp) (by simp)) (Hl h hw)
 ·rename_i q a m;cases hx;cases hy with
  |gN _ c hc=>
   unfold uS at h
   split at h
   ·rw[aO]at h
    split at h
    ·cases h
    ·rename_i hlt;cases h;have h1':¬((m:Nat):Int)<a:=by simpa using hlt
     refine quiet (lU (by simp) (by simp)) (bF.still hw ?_ (.bool false));have h2:decide (c<a)=false:=by simp;omega
     simp[binOp];show Sem.run P (pure (Value.bool (decide (c<a)))) w=_;rw[h2];rfl
   ·cases h
 ·cases h
 ·cases h
 ·cases h
 ·cases h
 ·rename_i hna hax EU hay hni hns hnc
  split at h
  ·rename_i e
   have key:∀b,KX e zQ x y=some b->(Op.equal t x' y').run P w= .ok b w/\(eqGuard op t X Y x' y').run P w= .ok () w:=by
    intro b hb
    have py:mK e x y=some b:=by
     unfold KX at hb
     split at hb
     ·rw[aO]at hb;split at hb
      ·exact hb
      ·cases hb
     ·exact hb
    refine⟨OJ (P:=P) (w:=w) (ρ:=ρ) f t e (hd e rfl) 10000 hf x y x' y' b py hx hy, ?_⟩
    by_cases h1:x'= .nilIface/\y'= .nilIface
    ·obtain⟨rfl,rfl⟩:=h1;cases hx<;>first|(exact absurd rfl hax)|skip
     cases hy<;>first|(exact absurd rfl hay)|skip
     have:zQ=true:=by
      have e:KX e zQ .fW .fW=bu zQ (mK e .fW .fW) none:=rfl;rw[e,aO]at hb
      split at hb
      ·assumption
      ·cases hb
     exact Fy (by rw[<-hc,this])
    ·by_cases h2:∃c d,x'= .agg c/\y'= .agg d
     ·obtain⟨c,d,rfl,rfl⟩:=h2;have:FU e=true:=by cases hx with|agg s l _ _=>exact Sp py rfl|any=>exact absurd rfl hax
      exact run_eqGuard_agg w op t X Y c d (hg e rfl this)
     ·exact lU h1 (fun c d hh=>h2 ⟨c,d,hh⟩)
   have Jd:∀k k' a b,¬(x'= .int k a/\y'= .int k' b):=by
    rintro k k' a b ⟨rfl,rfl⟩;cases hx with
    |any=>exact hax rfl
    |gN _ _ _=>exact hna _ rfl
    |int _ _=>
     cases hy with
     |any=>exact hay rfl
     |gN _ _ _=>exact EU _ rfl
     |int _ _=>exact hni _ _ _ _ rfl rfl
   unfold Yy at h
   split at h
   ·rename_i b hb;obtain⟨k1,k2⟩:=key b hb;cases h;refine quiet k2 (bF.still hw ?_ (.bool b))
    cases hx<;>first
     |(exact absurd rfl hax)
     |(cases hy<;>first
      |(exact absurd rfl hay)
      |(exact absurd ⟨rfl,rfl⟩ (Jd _ _ _ _))
      |(exact(hns _ _ rfl rfl).elim)
      |(simp only[binOp];simp[k1]))
   ·rename_i b hb;obtain⟨k1,k2⟩:=key b hb;cases h;refine quiet k2 (bF.still hw ?_ (.bool _))
    cases hx<;>first
     |(exact absurd rfl hax)
     |(cases hy<;>first
      |(exact absurd rfl hay)
      |(exact absurd ⟨rfl,rfl⟩ (Jd _ _ _ _))
      |(exact(hns _ _ rfl rfl).elim)
      |(simp only[binOp];simp[k1]))
   ·cases h
  ·cases h
def lj (op:UnOp)(x:CV)(st:St):OR:=
 match op,x with
 | .not, .bool b=> .ok (.bool (!b)) st
 | .neg, .int k n=> .ok (.int k (k.wrap (0-n))) st
 | .xor, .int k n=>(match jA .xor k (if k.signed then-1 else k.max) n with|some r=> .ok (.int k r) st|none=> .bad)
 |_,_=> .bad
theorem J9 {op:UnOp}{x:CV}{x':Value}(h:lj op x st= .ok v st')(hw:WR ρ st w)(hx:VR ρ x x'):bF P (Op.unary op x') ρ st w v st':=by
 unfold lj at h
 split at h
 ·cases h;cases hx;exact bF.still hw rfl (.bool _)
 ·cases h;cases hx;exact bF.still hw rfl (.int _ _)
 ·rename_i k n
  split at h
  ·rename_i r hr;cases h;cases hx;exact bF.still hw (wJ P w .xor k _ n r hr) (.int _ _)
  ·cases h
 ·cases h
end
