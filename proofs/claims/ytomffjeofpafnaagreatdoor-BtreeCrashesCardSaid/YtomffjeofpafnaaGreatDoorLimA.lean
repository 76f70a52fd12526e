import Derived.WalkKit
import Derived.ChangeKeysEq
import Derived.Stop.BytesEq
namespace Lim
open Go
abbrev aDo:=@List.getElem?_cons_zero
abbrev aDp:=@Bool.false_eq_true
abbrev aDq:=@List.getElem?_cons_succ
abbrev aDr:=@decide_eq_false
abbrev aDs:=@List.mem_cons
abbrev aDt:=@Nat.le_refl
abbrev aDu:=@List.getElem?_eq_getElem
abbrev aDv:=@if_neg
abbrev aDw:=@List.length_append
abbrev aDx:=@Nat.zero_add
abbrev aDy:=@if_pos
abbrev aDz:=@decide_eq_true
abbrev aDA:=@List.take_of_length_le
abbrev aDB:=@List.mem_append
abbrev aDC:=@run_underlying
abbrev aDD:=@List.getElem?_eq_some_iff
abbrev aDE:=@if_false
abbrev aDF:=@List.length_take
abbrev aDG:=@List.nodup_cons
abbrev aDH:=@List.take_succ_eq_append_getElem
abbrev aDI:=@Bool.not_false
abbrev aDJ:=@Bool.not_true
abbrev aDK:=@Bool.and_eq_true
abbrev aDL:=@List.getElem_mem
abbrev aDM:=@Nat.lt_of_lt_of_le
abbrev aDN:=@List.drop_eq_getElem_cons
abbrev aDO:=@List.length_drop
abbrev aDP:=@List.length_eq_zero_iff
abbrev aDQ:=@if_true
abbrev aDR:=@List.mem_map
abbrev aDS:=@List.mem_cons_of_mem
abbrev aDT:=@List.length_cons
abbrev aDU:=@decide_eq_decide
abbrev aDV:=@List.nil_append
abbrev aDW:=@Nat.ble_eq
abbrev aDX:=@List.drop_zero
abbrev aDY:=@List.append_assoc
abbrev aDZ:=@Nat.beq_eq
abbrev aEa:=@List.drop_of_length_le
abbrev aEb:=@Nat.add_zero
abbrev aEc:=@List.map_cons
abbrev aEd:=@List.take_append_drop
abbrev aEe:=@List.not_mem_nil
abbrev aEf:=@List.getElem?_map
abbrev aEg:=@List.mem_of_mem_take
abbrev aEh:=@Array.getElem?_eq_some_iff
abbrev aEi:=@Nat.min_eq_left
abbrev aEj:=@Nat.mul_le_mul_right
abbrev aEk:=@List.mem_of_mem_drop
abbrev aEl:=@List.getElem?_eq_none
abbrev aEm:=@List.mem_of_getElem?
abbrev aEn:=@List.nodup_append
abbrev aEo:=@List.length_replicate
abbrev aEp:=@List.cons_append
abbrev aEq:=@decide_true
abbrev aEr:=@Ne.symm
abbrev aEs:=@List.append_nil
abbrev aEt:=@List.length_map
abbrev aEu:=@Bool.or_eq_true
abbrev aEv:=@List.getElem_of_mem
abbrev aEw:=@List.mem_cons_self
abbrev aEx:=@Nat.eq_of_mul_eq_mul_right
abbrev aEy:=@Array.getElem?_setIfInBounds_ne
abbrev aEz:=@Nat.add_mul
abbrev aEA:=@List.mem_map_of_mem
abbrev aEB:=@Nat.le_trans
abbrev aEC:=@List.map_append
abbrev aED:=@Option.map_some
abbrev aEE:=@List.mem_singleton
abbrev aEF:=@List.getElem?_append_right
abbrev aEG:=@Nat.lt_or_ge
abbrev aEH:=@List.take_take
abbrev aEI:=@List.getElem?_toArray
abbrev aEJ:=@decide_eq_true_eq
abbrev aEK:=@List.filter_cons
abbrev aEL:=@Nat.add_sub_cancel
abbrev aEM:=@not_or
abbrev aEN:=@List.map_drop
abbrev aEO:=@List.length_nil
abbrev aEP:=@List.take_left'
abbrev aEQ:=@Nat.mul_one
abbrev aER:=@Option.some.injEq
abbrev aES:=@List.flatten_cons
abbrev aET:=@List.getElem?_append_left
abbrev aEU:=@Array.toArray_toList
abbrev aEV:=@List.mem_append_left
abbrev aEW:=@or_false
abbrev aEX:=@List.cons.injEq
abbrev aEY:=@decide_false
abbrev aEZ:=@Array.toList_map
abbrev aFa:=@Option.getD_some
abbrev aFb:=@Nat.add_sub_cancel_left
abbrev aFc:=@List.map_take
abbrev aFd:=@List.getD_eq_getElem?_getD
abbrev aFe:=@List.getElem?_take
abbrev aFf:=@List.filter_append
abbrev aFg:=@List.length_pos_iff
abbrev aFh:=@List.perm_iff_count
abbrev aFi:=@List.drop_take
abbrev aFj:=@List.take_zero
abbrev aFk:=@List.mem_filter
abbrev aFl:=@Prod.mk.injEq
abbrev aFm:=@List.take_append
abbrev aFn:=@Nat.mod_eq_of_lt
abbrev aFo:=@Array.length_toList
abbrev aFp:=@List.count_append
abbrev aFq:=@List.mem_or_eq_of_mem_set
abbrev aFr:=@Option.some.inj
abbrev aFs:=@Nat.mul_comm
abbrev aFt:=@List.mem_append_right
abbrev aFu:=@List.all_eq_true
abbrev aFv:=@List.pairwise_append
abbrev aFw:=@true_and
abbrev aFx:=@List.pairwise_map
abbrev aFy:=@Nat.one_mul
abbrev aFz:=@List.replicate_succ
abbrev aFA:=@List.drop_replicate
abbrev aFB:=@List.count_cons
abbrev aFC:=@List.findIdx_le_length
abbrev aFD:=@List.getElem?_drop
abbrev aFE:=@Int.natCast_nonneg
abbrev aFF:=@List.set_eq_take_append_cons_drop
abbrev aFG:=@Nat.eq_or_lt_of_le
abbrev aFH:=@Nat.zero_le
abbrev aFI:=@List.pairwise_iff_getElem
abbrev aFJ:=@List.reverse_reverse
abbrev aFK:=@List.size_toArray
abbrev aFL:=@List.ext_getElem?
abbrev aFM:=@Nat.mod_lt
abbrev aFN:=@List.map_map
abbrev aFO:=@Array.getElem?_push
abbrev aFP:=@List.flatten_append
abbrev aFQ:=@List.takeWhile_cons
abbrev aFR:=@List.drop_drop
abbrev aFS:=@List.nodup_nil
abbrev aFT:=@Array.toList_range
abbrev aFU:=@List.pairwise_cons
abbrev aFV:=@Bool.eq_iff_iff
abbrev aFW:=@Array.getElem?_append
abbrev aFX:=@Nat.succ_le_iff
abbrev aFY:=@Nat.pow_succ
abbrev aFZ:=@List.drop_left'
abbrev aGa:=@List.length_filter_le
abbrev aGb:=@Int.toNat_natCast
abbrev aGc:=@Bool.not_eq_true'
abbrev aGd:=@Nat.lt_trichotomy
abbrev aGe:=@List.foldl_append
abbrev aGf:=@Nat.mul_le_mul
abbrev aGg:=@Nat.add_comm
noncomputable section
set_option linter.defProp false
def pX{p:Prop}(h:p:=by omega):p:=h
def rq{p:Prop}(h:p:=by simp):p:=h
def wI{p:Prop}(h:p:=by decide):p:=h
def yN{p:Prop}(h:p:=by kernel_rfl):p:=h
def AI{p:Prop}(h:p:=by simp;omega):p:=h
def AS{p:Prop}(h:p:=by rw[ay,dx];congr 2;simp only[aDU];omega):p:=h
def CE{p:Prop}(h:p:=by rw[ay,cI,bB (by omega)];rfl):p:=h
def EH{p:Prop}(h:p:=by rw[ay,dX,bB (by omega)];congr 2;omega):p:=h
def Hw{p:Prop}(h:p:=by simpa using hc):p:=h
def R5{p:Prop}(h:p:=by simpa using h):p:=h
def R6{p:Prop}(h:p:=by rw[ay,cz,aDr (by omega)]):p:=h
def R7{p:Prop}(h:p:=by have:=tb b hb;omega):p:=h
def R8{p:Prop}(h:p:=by have:=ue b hb;omega):p:=h
def Sa{p:Prop}(h:p:=by rw[ay,cI,bB (by omega)];congr 2):p:=h
def Sb{p:Prop}(h:p:=by rw[ay,cz];congr 2;simp only[aDU];omega):p:=h
def Sd{p:Prop}(h:p:=by rw[ay,kg,bB (by omega)];rfl):p:=h
def Ws{p:Prop}(h:p:=by rw[aDF];omega):p:=h
def Wt{p:Prop}(h:p:=by simpa using hlt):p:=h
def Wu{p:Prop}(h:p:=by rw[aDX,aDA (by omega)]):p:=h
def Wv{p:Prop}(h:p:=by simpa using hi):p:=h
def Ww{p:Prop}(h:p:=by simp[hb]):p:=h
def Wx{p:Prop}(h:p:=by simpa using h1):p:=h
def Wy{p:Prop}(h:p:=by rw[show List.findIdx (λc:dh=>decide (kh key c.key)) n.cells=n.find key from rfl,<-h];exact hc):p:=h
def Wz{p:Prop}(h:p:=by simp at h):p:=h
def WC{p:Prop}(h:p:=by simp[binOp,Op.stringOp,kM]):p:=h
def WD{p:Prop}(h:p:=by simp[hq]):p:=h
def WE{p:Prop}(h:p:=by simp[h]):p:=h
def WG{p:Prop}(h:p:=by simp[hq x hx]):p:=h
def WH{p:Prop}(h:p:=by simp[hx]):p:=h
def WI{p:Prop}(h:p:=by simp[jK,lT]):p:=h
def WJ{p:Prop}(h:p:=by simpa using h2):p:=h
def WK{p:Prop}(h:p:=by rw[aDO];omega):p:=h
def WL{p:Prop}(h:p:=by simpa using hx):p:=h
def WM{p:Prop}(h:p:=by simpa using hp):p:=h
def WN{p:Prop}(h:p:=by have:=hF b hb;simp;omega):p:=h
def WO{p:Prop}(h:p:=by rw[ay,cY,aDr (by omega)]):p:=h
def WQ{p:Prop}(h:p:=by have:=h.lt;omega):p:=h
def WS{p:Prop}(h:p:=by simp[zeroValue,typeInfo,hi,hz]):p:=h
def WT{p:Prop}(h:p:=by rw[bB (by omega)];omega):p:=h
def WU{p:Prop}(h:p:=by simp;exact⟨by omega,by have:=h.lt bl (by rw[h.eq];simp);omega⟩):p:=h
def WV{p:Prop}(h:p:=by have:=(tb b hb).2;omega):p:=h
def aag{p:Prop}(h:p:=by have:=hw.fresh b x hx;rw[e]at this;omega):p:=h
def aah{p:Prop}(h:p:=by rw[aDW];omega):p:=h
def aak{p:Prop}(h:p:=by rw[Ren.du _ _ _ _ (gq b _ hr)];exact hr):p:=h
def aal{p:Prop}(h:p:=by rw[dm.len];exact aDt _):p:=h
def aan{p:Prop}(h:p:=by rw[ay,cY];congr 2;simp only[aDU];omega):p:=h
def aao{p:Prop}(h:p:=by rw[ay,pF];congr 2;simp only[aDU];omega):p:=h
def aap{p:Prop}(h:p:=by simp[o1]):p:=h
def aaq{p:Prop}(h:p:=by simp[aZ]):p:=h
def aar{p:Prop}(h:p:=by simpa using he):p:=h
def aas{p:Prop}(h:p:=by simpa using hs):p:=h
def aat{p:Prop}(h:p:=by have:=vW (i:=0) hj;simpa using this):p:=h
def aau{p:Prop}(h:p:=by rw[e];unfold Cr;rw[hc];dsimp only;rw[hv];exact hN m hm):p:=h
def aav{p:Prop}(h:p:=by rw[al _ _ _ _ (by omega),ba _ _ _ (by omega)];exact g1):p:=h
def aaw{p:Prop}(h:p:=by rw[al _ _ _ _ (by omega),ba _ _ _ (by omega)];exact g3):p:=h
def aax{p:Prop}(h:p:=by rw[Ren.du _ _ _ _ (λe=>by rw[e]at hq;omega)];exact hn):p:=h
def aaD{p:Prop}(h:p:=by rw[h.eq];simp):p:=h
def aaE{p:Prop}(h:p:=by split<;>omega):p:=h
def aaF{p:Prop}(h:p:=by simp[aj]):p:=h
def aaG{p:Prop}(h:p:=by rw[t3];exact hB):p:=h
def aaH{p:Prop}(h:p:=by have:=h.pg.lt b hh;omega):p:=h
def aaI{p:Prop}(h:p:=by have:=b.node.ok.cell;rw[b.inner]at this;exact this):p:=h
def aaJ{p:Prop}(h:p:=by rw[bM];omega):p:=h
def aaK{p:Prop}(h:p:=by rw[h.eq];simpa using hb):p:=h
def aaL{p:Prop}(h:p:=by have:=(a3 b hb).1;omega):p:=h
def aaM{p:Prop}(h:p:=by have:=(hF b hb).2;omega):p:=h
def aaN{p:Prop}(h:p:=by simpa using hb):p:=h
def aaO{p:Prop}(h:p:=by simpa using gq):p:=h
def aaP{p:Prop}(h:p:=by rw[List.length_zip,dm.len];simp):p:=h
def aaQ{p:Prop}(h:p:=by simpa using hh):p:=h
def aaR{p:Prop}(h:p:=by rw[h3];show(cX M.dirty n).getD []=s';rw[q1];rfl):p:=h
def aaS{p:Prop}(h:p:=by rw[<-i2 q λj t g1 g2=>hq j t g1 (by omega),HC]):p:=h
def aaT{p:Prop}(h:p:=by simp[x2,y2]):p:=h
def aaU{p:Prop}(h:p:=by simp[binOp,Op.intArith]<;>rfl):p:=h
def aaV{p:Prop}(h:p:=by rw[fY];decide):p:=h
def aaW{p:Prop}(h:p:=by show 1+D.ao.length/4<=_;omega):p:=h
def aaX{p:Prop}(h:p:=by rw[<-e];exact h1):p:=h
def aaY{p:Prop}(h:p:=by unfold PI.W;simp):p:=h
def aaZ{p:Prop}(h:p:=by rw[te hu,show im u=false by simpa using ha]):p:=h
def aba{p:Prop}(h:p:=by unfold cB;simp;omega):p:=h
def abb{p:Prop}(h:p:=by rw[uQ];rw[e2]at e5;exact e5):p:=h
def abc{p:Prop}(h:p:=by simp[Go.sizeOf,typeInfo,hi]):p:=h
def abd{p:Prop}(h:p:=by simp only[aDs,aDB,aEM];exact⟨x4,x5,x6,x7⟩):p:=h
def abe{p:Prop}(h:p:=by simp only[aDs,aDB,aEM];exact⟨df,da,dv,dd⟩):p:=h
def abf{p:Prop}(h:p:=by have:=lc b hb;omega):p:=h
def abg{p:Prop}(h:p:=by have:=qD q hh;omega):p:=h
def abh{p:Prop}(h:p:=by have:=ue _ hh;omega):p:=h
def abi{p:Prop}(h:p:=by simp[hU]):p:=h
def abj{p:Prop}(h:p:=by show 0<D.ao.length/4;omega):p:=h
def abk{p:Prop}(h:p:=by simpa using hj):p:=h
def abl{p:Prop}(h:p:=by simpa using hT):p:=h
def abm{p:Prop}(h:p:=by show base<=_;omega):p:=h
def abn{p:Prop}(h:p:=by simpa using (List.mem_range'_1.1 hj).2):p:=h
def abo{p:Prop}(h:p:=by have:=h.lt bl (by rw[h.eq];simp);omega):p:=h
def abp{p:Prop}(h:p:=by rw[mC _ _ _ (by simp[si];omega)];omega):p:=h
def abq{p:Prop}(h:p:=by simp[Builtin.firstCells]):p:=h
def abr{p:Prop}(h:p:=by have:=h.pg.lt _ hh;omega):p:=h
def abt{p:Prop}(h:p:=by unfold aP.BY;rw[hw];simp):p:=h
def abu{p:Prop}(h:p:=by rw[<-aEU (xs:=args'),e1]):p:=h
def abv{p:Prop}(h:p:=by simpa using a):p:=h
def abw{p:Prop}(h:p:=by simpa using b):p:=h
def abx{p:Prop}(h:p:=by rw[<-e4];exact h1):p:=h
def aby{p:Prop}(h:p:=by rw[aDw];omega):p:=h
def abz{p:Prop}(h:p:=by have:=qX.nx;omega):p:=h
def abA{p:Prop}(h:p:=by have:=ht.lt;omega):p:=h
def abB{p:Prop}(h:p:=by have:=(Mj q hq).1;omega):p:=h
def abC{p:Prop}(h:p:=by have:=(Mj b hb).1;omega):p:=h
def abH{p:Prop}(h:p:=by rw[ay,dX,bB (by omega)]):p:=h
def abL{p:Prop}(h:p:=by have:=(a3 q hq).1;omega):p:=h
def abS{p:Prop}(h:p:=by have:=(Mv _ hh).1;omega):p:=h
def abT{p:Prop}(h:p:=by have:=(tb b hb).1;omega):p:=h
def abU{p:Prop}(h:p:=by unfold dQ;split<;>omega):p:=h
def abV{p:Prop}(h:p:=by simp[h1]):p:=h
def acd{p:Prop}(h:p:=by simp[eK]):p:=h
def acg{p:Prop}(h:p:=by rw[aEZ];exact Vo):p:=h
def acp{p:Prop}(h:p:=by simp only[aDK,aDW];exact⟨hk,q1,q2⟩):p:=h
def acz{p:Prop}(h:p:=by rw[Pa];exact e1):p:=h
def acB{p:Prop}(h:p:=by simp at hb;simp;omega):p:=h
def acI{p:Prop}(h:p:=by rw[tw,aDy (by omega)]):p:=h
def acL{p:Prop}(h:p:=by rw[bM,ZO];omega):p:=h
def acR{p:Prop}(h:p:=by unfold PI.all;simp[h]):p:=h
def acS{p:Prop}(h:p:=by unfold PI.all;simp[e]):p:=h
def acT{p:Prop}(h:p:=by simpa using hl):p:=h
def acU{p:Prop}(h:p:=by rw[e];exact vZ):p:=h
def ada{p:Prop}(h:p:=by simp[si];omega):p:=h
def adg{p:Prop}(h:p:=by simpa using Ac):p:=h
def adh{p:Prop}(h:p:=by simpa using hn.symm):p:=h
def adi{p:Prop}(h:p:=by simp[h2]):p:=h
def adj{p:Prop}(h:p:=by simp at hx;simp[hx]):p:=h
def adk{p:Prop}(h:p:=by have:=lF b hb;omega):p:=h
def adl{p:Prop}(h:p:=by simp at hh;simp[hh]):p:=h
def adm{p:Prop}(h:p:=by have:=Mv b hb;omega):p:=h
def ado{p:Prop}(h:p:=by simp at hq;simp[hq]):p:=h
def adp{p:Prop}(h:p:=by simp[bg.size]):p:=h
def adq{p:Prop}(h:p:=by rw[aEz];omega):p:=h
def adt{p:Prop}(h:p:=by exact λ_ h=>.inl h):p:=h
def adu:True:=trivial
def PT (α:Type):=Nat->Option α
namespace PT
variable {α:Type}
def g (t:PT α)(p:Nat):Option α:=t p
def put (t:PT α)(p:Nat)(x:Option α):PT α:=λq=>if q=p then x else t q
def nil:PT α:=λ_=>none
def eO (t:PT α)(p q:Nat)(x:Option α):(t.put p x).g q=if q=p then x else t.g q:=rfl
def dg (t:PT α)(p:Nat)(x:Option α):(t.put p x).g p=x:=by simp[eO]
def dn (t:PT α)(p q:Nat)(x:Option α)(h:q≠p):(t.put p x).g q=t.g q:=by simp[eO,h]
@[simp] def get_nil (p:Nat):(nil:PT α).g p=none:=rfl
def ext {t u:PT α}(h:∀p,t.g p=u.g p):t=u:=funext h
end PT
def bz {α:Type}(b:Bool)(t f:α):α:=if b=true then t else f
@[simp] def aO {α:Type}(b:Bool)(t f:α):bz b t f=if b=true then t else f:=rfl
def ot {α β:Type}(x:α)(k:α->β):β:=k x
@[simp] def dH {α β:Type}(x:α)(k:α->β):ot x k=k x:=rfl
inductive CV where
 |undef
 |bool (b:Bool)
 |int (k:IntKind) (n:Int)
 |str (l:List UInt8)
 |bk
 |ptr (b:Nat) (off:Nat)
 |ae
 |slice (b:Nat) (off len cap grow:Nat)
 |fF
 |map (b:Nat)
 |func (fn:Fn) (first captured:List CV)
 |mm
 |iface (t:TypeId) (v:CV)
 |fZ
 |agg (s:List CV)
 |tuple (s:List CV)
 |gS (n:Nat)
 |any
 |qd
def bP (b:UInt8):CV:=.int .u8 b.toNat
abbrev row (s:List CV):List CV:=s
def ia {α:Type}(s:List α)(off n:Nat):Option (List α):=if off+n<=s.length then some ((s.drop off).take n)else none
def dU {α:Type}(s:List α)(off:Nat)(t:List α):Option (List α):=if off+t.length<=s.length then some (s.take off++(t++s.drop (off+t.length)))else none
def jL {α:Type}{s t:List α}{off n:Nat}(h:ia s off n=some t):off+n<=s.length/\t=(s.drop off).take n:=by
 unfold ia at h;split at h
 .cases h;exact⟨by assumption,rfl⟩
 .cases h
def xM {α:Type}{s t s':List α}{off:Nat}(h:dU s off t=some s'):off+t.length<=s.length/\s'=s.take off++(t++s.drop (off+t.length)):=by
 unfold dU at h;split at h
 .cases h;exact⟨by assumption,rfl⟩
 .cases h
section
variable {v:CV}{v':Value}{l:List CV}{l':List Value}{o:Obj}{w':World}{sz r:Nat}
inductive qN where
 |cells (s:List CV) (t:TypeId) (grow:Bool)
 |map (es:List (CV×CV×Nat)) (clock:Nat)
 |lmap (es:List (CV×CV×Nat))
 |ro (s:List CV) (o:Obj)
structure St where
 m:PT qN
 nx:Nat
abbrev Ren:=Nat->Option (Nat×Nat)
def gI (l:List UInt8):ByteArray:=⟨l.toArray⟩
@[simp] def kN (l:List UInt8):(gI l).size=l.length:=by simp[gI,ByteArray.size]
def sP (s:ByteArray):gI s.data.toList=s:=by cases s;simp[gI]
inductive VR (ρ:Ren):CV->Value->Prop where
 |undef:VR ρ .undef (.tuple #[])
 |bool (b:Bool):VR ρ (.bool b) (.bool b)
 |int (k:IntKind) (n:Int):VR ρ (.int k n) (.int k n)
 |str (l:List UInt8):VR ρ (.str l) (.string (gI l))
 |bk:VR ρ .bk (.pointer none)
 |ptr (b:Nat) (off r sz:Nat) (h:ρ b=some (r,sz)):VR ρ (.ptr b off) (.pointer (some ⟨r,off,none⟩))
 |ae:VR ρ .ae (.slice none 0 0)
 |slice (b:Nat) (off len cap r sz:Nat) (h:ρ b=some (r,sz)):VR ρ (.slice b off len cap 0) (.slice (some ⟨r,off,none⟩) len cap)
 |nN (b:Nat) (off dA len cap fm grow r sz:Nat) (h:ρ b=some (r,sz)) (hg:0<grow) (hl:len<=cap) (hc:cap<=fm) (ho:0<cap->dA=off)
  (hs:dA+fm*grow<=sz):VR ρ (.slice b off len cap grow) (.slice (some ⟨r,dA,none⟩) len fm)
 |fF:VR ρ .fF (.map none)
 |map (b:Nat) (r sz:Nat) (h:ρ b=some (r,sz)):VR ρ (.map b) (.map (some r))
 |func (fn:Fn) (f c:List CV) (f' c':List Value) (hf:(row f).length=f'.length) (hc:(row c).length=c'.length)
  (h1:∀(i:Nat) (v:CV) (v':Value),(row f)[i]?=some v->f'[i]?=some v'->VR ρ v v')
  (h2:∀(i:Nat) (v:CV) (v':Value),(row c)[i]?=some v->c'[i]?=some v'->VR ρ v v'):VR ρ (.func fn f c) (.func fn f'.toArray c'.toArray)
 |mm:VR ρ .mm .nilFunc
 |iface (t:TypeId) (v:CV) (v':Value) (h:VR ρ v v'):VR ρ (.iface t v) (.iface t v')
 |fZ:VR ρ .fZ .nilIface
 |agg (s:List CV) (l:List Value) (hl:(row s).length=l.length)
  (h:∀(i:Nat) (v:CV) (v':Value),(row s)[i]?=some v->l[i]?=some v'->VR ρ v v'):VR ρ (.agg s) (.agg l.toArray)
 |tuple (s:List CV) (l:List Value) (hl:(row s).length=l.length)
  (h:∀(i:Nat) (v:CV) (v':Value),(row s)[i]?=some v->l[i]?=some v'->VR ρ v v'):VR ρ (.tuple s) (.tuple l.toArray)
 |gS (n:Nat) (m:Int) (h:(n:Int)<=m):VR ρ (.gS n) (.int .i64 m)
 |any (v':Value):VR ρ .any v'
 |qd (a:Addr):VR ρ .qd (.slice (some a) 0 0)
structure eF (ρ:Ren)(l:List CV)(l':List Value):Prop where
 len:l.length=l'.length
 at':∀(i:Nat) (v:CV) (v':Value),l[i]?=some v->l'[i]?=some v'->VR ρ v v'
def Ren.le (ρ ρ':Ren):Prop:=∀b r,ρ b=some r->ρ' b=some r
def VR.mono {ρ ρ':Ren}(hle:ρ.le ρ')(h:VR ρ v v'):VR ρ' v v':=by
 induction h with
 |undef=>exact .undef
 |bool b=>exact .bool b
 |int k n=>exact .int k n
 |str l=>exact .str l
 |bk=>exact .bk
 |ptr b off r sz h=>exact .ptr b off r sz (hle _ _ h)
 |ae=>exact .ae
 |slice b off len cap r sz h=>exact .slice b off len cap r sz (hle _ _ h)
 |nN b off dA len cap fm grow r sz h hg hl hc ho hs=>exact .nN b off dA len cap fm grow r sz (hle _ _ h) hg hl hc ho hs
 |fF=>exact .fF
 |map b r sz h=>exact .map b r sz (hle _ _ h)
 |func fn f c f' c' hf hc h1 h2 ih1 ih2=>exact .func fn f c f' c' hf hc ih1 ih2
 |mm=>exact .mm
 |iface t v v' _ ih=>exact .iface t v v' ih
 |fZ=>exact .fZ
 |agg s l hl _ ih=>exact .agg s l hl ih
 |tuple s l hl _ ih=>exact .tuple s l hl ih
 |gS n m h=>exact .gS n m h
 |any v'=>exact .any v'
 |qd a=>exact .qd a
def eF.mono {ρ ρ':Ren}(hle:ρ.le ρ')(h:eF ρ l l'):eF ρ' l l':=
 ⟨h.len,λi v v' a b=>(h.at' i v v' a b).mono hle⟩
def eF.nil (ρ:Ren):eF ρ [] []:=⟨rfl,λi v v' h=>Wz⟩
def eF.cons {ρ:Ren}(h:VR ρ v v')(t:eF ρ l l'):eF ρ (v::l) (v'::l'):=
 ⟨by simp[t.len],λi x x' a b=>by
  cases i with
  |zero=>simp at a b;subst a;subst b;exact h
  |succ i=>exact t.at' i x x' abv abw⟩
def eF.inv {ρ:Ren}(h:eF ρ (v::l) l'):∃v' t',l'=v'::t'/\VR ρ v v'/\eF ρ l t':=by
 cases l' with
 |nil=>have:=h.len;simp at this
 |cons v' t'=>
  exact⟨v',t',rfl,h.at' 0 v v' rfl rfl,⟨by have:=h.len;simpa using this,λi x x' a b=>h.at' (i+1) x x' abv abw⟩⟩
def eF.app {ρ:Ren}{m:List CV}{m':List Value}(h:eF ρ l l')(t:eF ρ m m'):eF ρ (l++m) (l'++m'):=by
 induction l generalizing l' with
 |nil=>have:l'=[]:=by have:=h.len;simpa using this.symm
       subst this;exact t
 |cons v l ih=>obtain⟨v',t',rfl,h1,h2⟩:=h.inv;exact eF.cons h1 (ih h2)
def eF.take {ρ:Ren}(h:eF ρ l l')(n:Nat):eF ρ (l.take n) (l'.take n):=
 ⟨by simp[h.len],λi v v' a b=>by
  rw[aFe]at a b
  split at a
  .rename_i hi;rw[aDy hi]at b;exact h.at' i v v' a b
  .cases a⟩
def eF.drop {ρ:Ren}(h:eF ρ l l')(n:Nat):eF ρ (l.drop n) (l'.drop n):=
 ⟨by simp[h.len],λi v v' a b=>by rw[aFD]at a b;exact h.at' _ v v' a b⟩
def eF.bytes (ρ:Ren)(l:List UInt8):eF ρ (l.map bP) (l.map λb:UInt8=>Value.int .u8 (b.toNat:Int)):=by
 induction l with
 |nil=>exact eF.nil ρ
 |cons a l ih=>exact eF.cons (.int _ _) ih
inductive BR (ρ:Ren):qN->Obj->Nat->Prop where
 |cells (s:List CV) (t:TypeId) (g:Bool) (c:Array Value) (lo hi:Nat) (hlen:s.length<=c.size)
  (hc:eF ρ (row s) (c.toList.take s.length)) (hf:∀k,k<c.size->¬(lo<=k/\k<hi)) (hg:g=false->∀k,¬(lo<=k/\k<hi)):BR ρ (.cells s t g) (.cells c t (lo,hi)) c.size
 |map (es:List (CV×CV×Nat)) (clock:Nat) (es':List MapEntry) (hl:es.length=es'.length)
  (h:∀(i:Nat) (e:CV×CV×Nat) (e':MapEntry),es[i]?=some e->es'[i]?=some e'->VR ρ e.1 e'.key/\VR ρ e.2.1 e'.val/\e.2.2=e'.born) (sz:Nat):
  BR ρ (.map es clock) (.map es'.toArray clock) sz
 |lmap (es l:List (CV×CV×Nat)) (clock:Nat) (es':List MapEntry) (hp:l.Perm es) (hi:∀e∈es,∃n:Int,e.1=.int .i64 n) (hn:(es.map (·.1)).Nodup) (hs:Go.MapKept.Stamped es'.toArray clock) (hl:l.length=es'.length)
  (h:∀(i:Nat) (e:CV×CV×Nat) (e':MapEntry),l[i]?=some e->es'[i]?=some e'->VR ρ e.1 e'.key/\VR ρ e.2.1 e'.val) (sz:Nat):BR ρ (.lmap es) (.map es'.toArray clock) sz
 |ro (s:List CV) (c:Array Value) (t:TypeId) (lo hi:Nat) (hlen:s.length<=c.size) (hc:eF ρ (row s) (c.toList.take s.length)):BR ρ (.ro s (.cells c t (lo,hi))) (.cells c t (lo,hi)) c.size
def BR.mono {ρ ρ':Ren}(hle:ρ.le ρ'){b:qN}{n:Nat}(h:BR ρ b o n):BR ρ' b o n:=by
 cases h with
 |cells s t g c lo hi hlen hc hf hg=>exact .cells s t g c lo hi hlen (hc.mono hle) hf hg
 |map es clock es' hl h=>
  exact .map es clock es' hl (λi e e' a b=>let ⟨x,y,z⟩:=h i e e' a b;⟨x.mono hle,y.mono hle,z⟩) _
 |lmap es l clock es' hp hi hn hs hl h=>exact .lmap es l clock es' hp hi hn hs hl (λi e e' a b=>let ⟨x,y⟩:=h i e e' a b;⟨x.mono hle,y.mono hle⟩) _
 |ro s c t lo hi hlen hc=>exact .ro s c t lo hi hlen (hc.mono hle)
structure WR (ρ:Ren)(st:St)(w:World):Prop where
 at':∀b blk r sz,st.m.g b=some blk->ρ b=some (r,sz)->∃o,w.heap[r]?=some o/\BR ρ blk o sz
 inj:∀b b' blk fc r sz NQ,st.m.g b=some blk->st.m.g b'=some fc->ρ b=some (r,sz)->ρ b'=some (r,NQ)->b=b'
 fresh:∀b x,ρ b=some x->b<st.nx
structure bh (ρ:Ren)(st:St)(w:World)(ρ':Ren)(st':St)(w':World):Prop where
 wr:WR ρ' st' w'
 ext:ρ.le ρ'
 KJ:∀b,b<st.nx->ρ b=none->ρ' b=none
 nx:st.nx<=st'.nx
 origin:∀b blk r sz,st'.m.g b=some blk->ρ' b=some (r,sz)->(∃b0 blk0 CL,st.m.g b0=some blk0/\ρ b0=some (r,CL))\/w.heap.size<=r
 kept:∀r:Nat,r<w.heap.size->(∀b blk sz,st.m.g b=some blk->ρ b≠some (r,sz))->w'.heap[r]?=w.heap[r]?
 size:w.heap.size<=w'.heap.size
 os:w'.os=w.os
 output:w'.output=w.output
def bh.refl {ρ:Ren}{st:St}{w:World}(h:WR ρ st w):bh ρ st w ρ st w:=
 ⟨h,λ_ _ h=>h,λ_ _ h=>h,aDt _,λb blk _ sz h1 h2=>.inl ⟨b,blk,sz,h1,h2⟩,λ_ _ _=>rfl,aDt _,rfl,rfl⟩
def bh.trans {ρ ρ1 ρ2:Ren}{st gF ux:St}{w w1 w2:World}(a:bh ρ st w ρ1 gF w1)(b:bh ρ1 gF w1 ρ2 ux w2):
 bh ρ st w ρ2 ux w2 where
 wr:=b.wr
 ext:=λ_ _ h=>b.ext _ _ (a.ext _ _ h)
 KJ:=λq hq h=>b.KJ q (aDM hq a.nx) (a.KJ q hq h)
 nx:=aEB a.nx b.nx
 origin:=λx blk r sz h1 h2=>by
  rcases b.origin x blk r sz h1 h2 with⟨b0,blk0,CL,h3,h4⟩|h3
  .exact a.origin b0 blk0 r CL h3 h4
  .exact .inr (aEB a.size h3)
 kept:=λr hr hn=>by
  rw[b.kept r (aDM hr a.size),a.kept r hr hn];intro x blk sz h1 h2;rcases a.origin x blk r sz h1 h2 with⟨b0,blk0,CL,h3,h4⟩|h3
  .exact hn b0 blk0 CL h3 h4
  .omega
 size:=aEB a.size b.size
 os:=b.os.trans a.os
 output:=b.output.trans a.output
def WR.DV {ρ:Ren}{st:St}{w:World}(h:WR ρ st w)(e:w'.heap=w.heap):WR ρ st w':=
 ⟨λb blk r sz hb hr=>by rw[e];exact h.at' b blk r sz hb hr,h.inj,h.fresh⟩
def bh.draw {ρ:Ren}{st:St}{w:World}(h:WR ρ st w)(d:Nat):bh ρ st w ρ st {w with drawn:=d}:=
 ⟨h.DV rfl,λ_ _ h=>h,λ_ _ h=>h,aDt _,λb blk _ sz h1 h2=>.inl ⟨b,blk,sz,h1,h2⟩,λ_ _ _=>rfl,aDt _,rfl,rfl⟩
def Ren.set (ρ:Ren)(b:Nat)(x:Nat×Nat):Ren:=λq=>if b=q then some x else ρ q
def Ren.eA (ρ:Ren)(b:Nat)(x:Nat×Nat):ρ.set b x b=some x:=by simp[Ren.set]
def Ren.du (ρ:Ren)(b q:Nat)(x:Nat×Nat)(h:q≠b):ρ.set b x q=ρ q:=by
 unfold Ren.set;rw[aDv];intro e;exact h (e.symm)
def St.new (st:St)(blk:qN):St:=⟨st.m.put st.nx (some blk),(st.nx+1)⟩
def bh.new {ρ:Ren}{st:St}{w:World}(h:WR ρ st w){blk:qN}(hb:BR (ρ.set st.nx (w.heap.size,sz)) blk o sz):
 bh ρ st w (ρ.set st.nx (w.heap.size,sz)) (st.new blk) {w with heap:=w.heap.push o}/\ρ.set st.nx (w.heap.size,sz) st.nx=some (w.heap.size,sz):=by
 have gq:∀b x,ρ b=some x->b≠st.nx:=λb x hx e=>by have:=h.fresh b x hx;rw[e]at this;omega
 have hle:ρ.le (ρ.set st.nx (w.heap.size,sz)):=λb _ hr=>aak
 have hlt:∀b blk r s,st.m.g b=some blk->ρ b=some (r,s)->r<w.heap.size:=λb blk r s h1 h2=>by
  obtain⟨o',e2,_⟩:=h.at' b blk r s h1 h2;exact(aEh.1 e2).1
 have gQ:∀b fc,b≠st.nx->(st.new blk).m.g b=some fc->st.m.g b=some fc:=λb fc hb h1=>by
  simpa[St.new,PT.dn _ _ _ _ hb]using h1
 have hor:∀b fc r s,(st.new blk).m.g b=some fc->ρ.set st.nx (w.heap.size,sz) b=some (r,s)->(∃b0 blk0 CL,st.m.g b0=some blk0/\ρ b0=some (r,CL))\/w.heap.size<=r:=λb fc r s h1 h2=>by
  by_cases e:b=st.nx
  .subst e;rw[Ren.eA]at h2;cases h2;exact .inr (aDt _)
  .rw[Ren.du _ _ _ _ e]at h2;exact .inl ⟨b,fc,s,gQ b fc e h1,h2⟩
 have vY:∀r:Nat,r<w.heap.size->(∀b blk sz,st.m.g b=some blk->ρ b≠some (r,sz))->(w.heap.push o)[r]?=w.heap[r]?:=λr hr _=>by
  rw[aFO,aDv pX]
 refine⟨⟨⟨λb fc r s h1 h2=>?_,λb b' mU ml r s s' h1 h2 h3 h4=>?_,λb x hx=>?_⟩,hle,λq hq hn=>aax,?_,hor,vY,rq,rfl,rfl⟩,Ren.eA _ _ _⟩
 .by_cases e:b=st.nx
  .subst e;simp only[St.new,PT.dg,aER]at h1;subst h1;rw[Ren.eA]at h2;cases h2;exact⟨o,rq,hb⟩
  .rw[Ren.du _ _ _ _ e]at h2;obtain⟨o',e2,e3⟩:=h.at' b fc r s (gQ b fc e h1) h2;refine⟨o',?_,e3.mono hle⟩;have:=(aEh.1 e2).1;rw[aFO,aDv pX];exact e2
 .by_cases e:b=st.nx
  .by_cases e':b'=st.nx
   .rw[e,e']
   .rw[e,Ren.eA]at h3;cases h3;rw[Ren.du _ _ _ _ e']at h4;have:=hlt b' ml _ _ (gQ b' ml e' h2) h4;omega
  .by_cases e':b'=st.nx
   .rw[e',Ren.eA]at h4;cases h4;rw[Ren.du _ _ _ _ e]at h3;have:=hlt b mU _ _ (gQ b mU e h1) h3;omega
   .rw[Ren.du _ _ _ _ e]at h3;rw[Ren.du _ _ _ _ e']at h4;exact h.inj b b' mU ml r s s' (gQ b mU e h1) (gQ b' ml e' h2) h3 h4
 .show b<(st.nx+1)
  by_cases e:b=st.nx
  .subst e;omega
  .rw[Ren.du _ _ _ _ e]at hx;have:=h.fresh b x hx;omega
 .show st.nx<=(st.nx+1);omega
def St.set (st:St)(b:Nat)(blk:qN):St:=⟨st.m.put b (some blk),st.nx⟩
def bh.set {ρ:Ren}{st:St}{w:World}(h:WR ρ st w){b:Nat}{blk0 blk:qN}(h0:st.m.g b=some blk0)(hr:ρ b=some (r,sz))
 (ho:w'.heap[r]?=some o) (hb:BR ρ blk o sz) (hk:∀k,k≠r->w'.heap[k]?=w.heap[k]?) (hs:w'.heap.size=w.heap.size) (hos:w'.os=w.os) (Pn:w'.output=w.output):
 bh ρ st w ρ (st.set b blk) w' where
 wr:={
  at':=λq fc r' s' h1 e1=>by
   by_cases e:q=b
   .subst e;simp only[St.set,PT.dg,aER]at h1;subst h1;rw[hr]at e1;cases e1;exact⟨o,ho,hb⟩
   .simp only[St.set,PT.dn _ _ _ _ e]at h1;obtain⟨o',e2,e3⟩:=h.at' q fc r' s' h1 e1;refine⟨o',?_,e3⟩;rw[hk r' (λe'=>e (h.inj q b fc blk0 r s' sz h1 h0 (by rw[e1,e']) hr))];exact e2
  inj:=λq q' mU ml r1 s1 s2 h1 h2 h3 h4=>by
   have g:∀q fc,(st.set b blk).m.g q=some fc->∃x,st.m.g q=some x:=λq fc hq=>by
    by_cases e:q=b
    .subst e;exact⟨_,h0⟩
    .simp only[St.set,PT.dn _ _ _ _ e]at hq;exact⟨_,hq⟩
   obtain⟨x1,g1⟩:=g q mU h1;obtain⟨x2,g2⟩:=g q' ml h2;exact h.inj q q' x1 x2 r1 s1 s2 g1 g2 h3 h4
  fresh:=h.fresh}
 ext:=λ_ _ h=>h
 KJ:=λ_ _ h=>h
 nx:=aDt _
 origin:=λq fc r1 s1 h1 h2=>by
  by_cases e:q=b
  .subst e;exact .inl ⟨q,blk0,s1,h0,h2⟩
  .simp only[St.set,PT.dn _ _ _ _ e]at h1;exact .inl ⟨q,fc,s1,h1,h2⟩
 kept:=λk _ hn=>hk k (λe=>hn b blk0 sz h0 (by rw[hr,e]))
 size:=pX
 os:=hos
 output:=Pn
def St.move (st:St)(b:Nat)(blk:qN):St:=⟨(st.m.put b none).put st.nx (some blk),(st.nx+1)⟩
def bh.move {ρ:Ren}{st:St}{w:World}(h:WR ρ st w){b:Nat}{blk0 blk:qN}(h0:st.m.g b=some blk0)(hr:ρ b=some (r,sz))
 (ho:w'.heap[r]?=some o) (hb:BR (ρ.set st.nx (r,sz)) blk o sz) (hk:∀k,k≠r->w'.heap[k]?=w.heap[k]?) (hs:w'.heap.size=w.heap.size) (hos:w'.os=w.os) (Pn:w'.output=w.output):
 bh ρ st w (ρ.set st.nx (r,sz)) (st.move b blk) w':=by
 have gq:∀q x,ρ q=some x->q≠st.nx:=λq x hx e=>by have:=h.fresh q x hx;rw[e]at this;omega
 have hle:ρ.le (ρ.set st.nx (r,sz)):=λq x hx=>by rw[Ren.du _ _ _ _ (gq q x hx)];exact hx
 have Ey:=gq b _ hr
 have gQ:∀q fc,q≠st.nx->(st.move b blk).m.g q=some fc->q≠b/\st.m.g q=some fc:=λq fc hq h1=>by
  simp only[St.move,PT.dn _ _ _ _ hq]at h1
  by_cases e:q=b
  .subst e;rw[PT.dg]at h1;cases h1
  .rw[PT.dn _ _ _ _ e]at h1;exact⟨e,h1⟩
 have hor:∀q fc r1 s,(st.move b blk).m.g q=some fc->ρ.set st.nx (r,sz) q=some (r1,s)->(∃b0 blk0 CL,st.m.g b0=some blk0/\ρ b0=some (r1,CL))\/w.heap.size<=r1:=λq fc r1 s h1 h2=>by
  by_cases e:q=st.nx
  .subst e;rw[Ren.eA]at h2;cases h2;exact .inl ⟨b,blk0,sz,h0,hr⟩
  .rw[Ren.du _ _ _ _ e]at h2;obtain⟨_,h1⟩:=gQ q fc e h1;exact .inl ⟨q,fc,s,h1,h2⟩
 have vY:∀k:Nat,k<w.heap.size->(∀b blk sz,st.m.g b=some blk->ρ b≠some (k,sz))->w'.heap[k]?=w.heap[k]?:=λk _ hn=>hk k (λe=>hn b blk0 sz h0 (by rw[hr,e]));refine⟨⟨λq fc r' s' h1 e1=>?_,λq q' mU ml r1 s s' h1 h2 h3 h4=>?_,λq x hx=>?_⟩,hle,λq hq hn=>aax,?_,hor,vY,pX,hos,Pn⟩
 .by_cases e:q=st.nx
  .subst e;simp only[St.move,PT.dg,aER]at h1;subst h1;rw[Ren.eA]at e1;cases e1;exact⟨o,ho,hb⟩
  .obtain⟨eb,h1⟩:=gQ q fc e h1;rw[Ren.du _ _ _ _ e]at e1;obtain⟨o',e2,e3⟩:=h.at' q fc r' s' h1 e1;refine⟨o',?_,e3.mono hle⟩;rw[hk r' (λe'=>eb (h.inj q b fc blk0 r s' sz h1 h0 (by rw[e1,e']) hr))];exact e2
 .by_cases e:q=st.nx
  .by_cases e':q'=st.nx
   .rw[e,e']
   .rw[e,Ren.eA]at h3;cases h3;rw[Ren.du _ _ _ _ e']at h4;obtain⟨eb,h2⟩:=gQ q' ml e' h2;exact absurd (h.inj q' b ml blk0 r s' sz h2 h0 h4 hr) eb
  .by_cases e':q'=st.nx
   .rw[e',Ren.eA]at h4;cases h4;rw[Ren.du _ _ _ _ e]at h3;obtain⟨eb,h1⟩:=gQ q mU e h1;exact absurd (h.inj q b mU blk0 r s sz h1 h0 h3 hr) eb
   .rw[Ren.du _ _ _ _ e]at h3;rw[Ren.du _ _ _ _ e']at h4;exact h.inj q q' mU ml r1 s s' (gQ q mU e h1).2 (gQ q' ml e' h2).2 h3 h4
 .show q<(st.nx+1)
  by_cases e:q=st.nx
  .subst e;omega
  .rw[Ren.du _ _ _ _ e]at hx;have:=h.fresh q x hx;omega
 .show st.nx<=(st.nx+1);omega
end
section
variable {v:CV}{ρ:Ren}{st:St}{s:List CV}{t:TypeId}{g:Bool}{r sz:Nat}{v':Value}{l:List Value}
def FX (j k:IntKind):decide (j=k)=true↔j=k:=rq
abbrev zeq (x y:Int):Bool:=decide (x=y)
def yo (x y:Int):zeq x y=true↔x=y:=rq
def jP (op:BinOp)(k:IntKind)(x y:Int):Option Int:=
 match op with
 | .and=>some (k.wrap (BitVec.ofInt k.bits x&&&BitVec.ofInt k.bits y).toNat)
 | .or=>some (k.wrap (BitVec.ofInt k.bits x|||BitVec.ofInt k.bits y).toNat)
 | .xor=>some (k.wrap (BitVec.ofInt k.bits x^^^BitVec.ofInt k.bits y).toNat)
 | .andNot=>some (k.wrap (BitVec.ofInt k.bits x&&& ~~~BitVec.ofInt k.bits y).toNat)
 |_=>none
def xH (P:Program)(w:World)(op:BinOp)(k:IntKind)(x y r:Int)(h:jP op k x y=some r):
 (Op.intBits op k x y).run P w=.ok (.int k r) w:=by
 cases op<;>simp only[jP,aER,reduceCtorEq]at h<;>subst h<;>rfl
def CV.isAny (v:CV):Bool:=match v with| .any=>true|_=>false
def CV.cA (v:CV):List CV:=
 match v with
 | .agg s=>s
 |v=>[v]
def E6 (h:∀s,v≠ .agg s):v.cA=[v]:=by
 cases v<;>first|rfl|exact absurd rfl (h _)
def kz (g o i:Nat):(⟨g,o,none⟩:Addr).add i=⟨g,o+i,none⟩:=by unfold Addr.add;split<;>simp_all
def dW (P:Program)(w:World)(r o n:Nat)(c:Array Value)(t:TypeId)(fz:Nat×Nat)(h:w.heap[r]?=some (.cells c t fz))(hn:o+n<=c.size):
 (loadCells ⟨r,o,none⟩ n).run P w=.ok ((c.toList.drop o).take n).toArray w:=by
 have hl:((c.toList.drop o).take n).length=n:=AI
 have:=run_loadCells_list (P:=P) w ⟨r,o,none⟩ ((c.toList.drop o).take n) (λj v hj=>by
  rw[kz];rw[aFe]at hj
  split at hj
  .rw[aFD]at hj;simp only[World.cell?,h]
   simpa using hj
  .cases hj)
 rw[hl]at this;exact this
def nk (P:Program)(w:World)(r o:Nat)(c:Array Value)(t:TypeId)(fz:Nat×Nat)(v:Value)(h:w.heap[r]?=some (.cells c t fz))(hv:c.toList[o]?=some v):
 (load ⟨r,o,none⟩).run P w=.ok v w:=by
 have:w.cell? ⟨r,o,none⟩=some v:=by simp only[World.cell?,h];simpa using hv
 rw[run_load,this]
def gu (P:Program)(g o:Nat)(t:TypeId)(lo hi:Nat):∀(vs:List Value) (i:Nat) (cur:Array Value) (w:World),w.heap[g]?=some (.cells cur t (lo,hi))->
 (∀k,k<cur.size->¬(lo<=k/\k<hi))->o+i+vs.length<=cur.size->(∀v∈vs,v.oneCell'=true)->
 (storeCells ⟨g,o,none⟩ vs i).run P w=.ok () (w.setRow g (cur.toList.take (o+i)++vs++cur.toList.drop (o+i+vs.length)).toArray)
 |[],i,cur,w,hg,_,_,_=>by
  simp only[storeCells,aEs,aEO,aEb,aEd,aEU];rw[setRow_self w g cur t (lo,hi) hg]
  rfl
 |v::rest,i,cur,w,hg,hfz,hl,h1=>by
  have ff:o+i<cur.size:=by simp at hl;omega
  have sh:w.cell? ⟨g,o+i,none⟩=some cur[o+i]:=by simp[World.cell?,hg,ff]
  have aob:w.frozen? ⟨g,o+i,none⟩=false:=by
   have:=hfz (o+i) ff;simp only[World.frozen?,hg,Bool.and_eq_false_iff,decide_eq_false_iff_not];omega
  have hst:(store ((⟨g,o,none⟩:Addr).add i) v).run P w=.ok () (w.setRow g (cur.setIfInBounds (o+i) v)):=by
   rw[kz,run_store P w _ v _ (h1 v rq),sh];simp[aob,setCell_eq_setRow w g (o+i) cur t (lo,hi) v hg]
  have ih:=gu P g o t lo hi rest (i+1) (cur.setIfInBounds (o+i) v) (w.setRow g (cur.setIfInBounds (o+i) v)) (setRow_heap w g cur _ t _ hg)
   (by simpa using hfz) (by simp at hl⊢;omega) (λx hx=>h1 x WH)
  simp only[storeCells,Sem.run_bind,hst,Result.andThen_ok,ih,setRow_setRow]
  congr 3
  have e:=list_seg_step cur.toList (o+i) v rest (by simp at hl⊢;omega)
  simpa[Array.toList_setIfInBounds,Nat.add_assoc]using e
def nj (w:World)(g:Nat)(c:Array Value)(k:Nat)(h:k≠g):(w.setRow g c).heap[k]?=w.heap[k]?:=by
 unfold World.setRow;simp only[Array.getElem?_modify];rw[aDv (λe=>h e.symm)]
def oH (w:World)(g:Nat)(c:Array Value):(w.setRow g c).heap.size=w.heap.size:=by
 unfold World.setRow;simp
def WR.row {w:World}(h:WR ρ st w){b:Nat}(h1:st.m.g b=some (.cells s t g))(h2:ρ b=some (r,sz)):
 ∃c lo hi,w.heap[r]?=some (.cells c t (lo,hi))/\c.size=sz/\s.length<=sz/\eF ρ s (c.toList.take s.length)/\(∀k,k<c.size->¬(lo<=k/\k<hi)):=by
 obtain⟨o,e2,e3⟩:=h.at' b _ r sz h1 h2;cases e3 with
 |cells _ _ _ c lo hi hlen hc hf hg=>exact⟨c,lo,hi,e2,rfl,hlen,hc,hf⟩
def WR.Om {w:World}(h:WR ρ st w){b:Nat}{o0:Obj}(h1:st.m.g b=some (.ro s o0))(h2:ρ b=some (r,sz)):
 ∃c t lo hi,w.heap[r]?=some (.cells c t (lo,hi))/\c.size=sz/\s.length<=sz/\eF ρ s (c.toList.take s.length):=by
 obtain⟨o,e2,e3⟩:=h.at' b _ r sz h1 h2;cases e3 with
 |ro _ c t lo hi hlen hc=>exact⟨c,t,lo,hi,e2,rfl,hlen,hc⟩
def WR.Xk {w:World}(h:WR ρ st w){b:Nat}(h1:st.m.g b=some (.cells s t g))(h2:ρ b=some (r,sz)){c:Array Value}{lo hi:Nat}(h3:w.heap[r]?=some (.cells c t (lo,hi))):g=false->∀k,¬(lo<=k/\k<hi):=by
 obtain⟨o,e2,e3⟩:=h.at' b _ r sz h1 h2;rw[h3]at e2;cases e2;cases e3 with
 |cells _ _ _ c lo hi hlen hc hf hg=>exact hg
def VR.cA (h:VR ρ v v')(hn:v.isAny=false):eF ρ (v.cA) v'.cells.toList:=by
 by_cases ha:∃s,v=.agg s
 .obtain⟨s,rfl⟩:=ha;cases h with
  |agg s l hl h=>exact⟨by simpa[CV.cA,Value.cells]using hl,λi v v' a b=>h i v v' a (by simpa[Value.cells]using b)⟩
 .rw[E6 (λs e=>ha ⟨s,e⟩)];have:v'.cells= #[v']:=by cases h<;>first|rfl|(cases hn;done)|exact absurd ⟨_,rfl⟩ ha
  rw[this];exact eF.cons h (eF.nil ρ)
def VR.Ek (h:eF ρ s l):VR ρ (.agg s) (.agg l.toArray):=.agg s l h.len h.at'
def VR.tuple' (h:eF ρ s l):VR ρ (.tuple s) (.tuple l.toArray):=.tuple s l h.len h.at'
def eF.get {l:List CV}{l':List Value}(h:eF ρ l l'){i:Nat}(hv:l[i]?=some v):∃v',l'[i]?=some v'/\VR ρ v v':=by
 have hi:i<l.length:=by
  rcases aEG i l.length with h|h
  .exact h
  .simp[aEl h]at hv
 have:=h.len▸hi;exact⟨l'[i],rq,h.at' i v _ hv rq⟩
def ck (v:CV):Bool:=match v with| .agg _| .tuple _| .undef| .any=>false|_=>true
def aU (s:List CV):Bool:=s.all ck
def nq (h:VR ρ v v')(ho:ck v=true):v'.oneCell'=true:=by
 cases h<;>first|rfl|(simp[ck]at ho)
def BN {x:CV}(h:aU x.cA=true):x.isAny=false:=by
 cases x<;>first|rfl|(simp[aU,CV.cA,ck]at h)
def nm (s:List CV)(h:aU s=true):∀v∈s,ck v=true:=by simpa[aU]using h
def bh.write {P:Program}{w:World}(h:WR ρ st w){b:Nat}{t s':List CV}{ty:TypeId}{off:Nat}{vs:List Value}
 (h1:st.m.g b=some (.cells s ty g)) (h2:ρ b=some (r,sz)) (hw:dU s off t=some s') (hv:eF ρ t vs) (ho:aU t=true):
 ∃w',(storeCells ⟨r,off,none⟩ vs).run P w=.ok () w'/\bh ρ st w ρ (st.set b (.cells s' ty g)) w':=by
 obtain⟨c,lo,hi,e1,e2,e3,e4,e5⟩:=h.row h1 h2;obtain⟨w1,w2⟩:=xM hw;have hlen:vs.length=t.length:=by rw[<-hv.len]
 have iY:∀v∈vs,v.oneCell'=true:=λv hm=>by
  obtain⟨i,ff,rfl⟩:=aEv hm;have:=hv.len▸ff;exact nq (hv.at' i t[i] _ rq rq) (nm t ho _ (aDL _))
 have jM:=gu P r off ty lo hi vs 0 c w e1 e5 pX iY;refine⟨_,jM,?_⟩
 have uh:s'.length=s.length:=by
  have:=congrArg List.length (w2);simp only[aDw,aDF,aDO]at this;omega
 have iZ:=setRow_heap w r c (c.toList.take (off+0)++vs++c.toList.drop (off+0+vs.length)).toArray ty (lo,hi) e1
 have uQ:(c.toList.take (off+0)++vs++c.toList.drop (off+0+vs.length)).toArray.size=sz:=by
  simp only[aFK,aDw,aDF,aDO,aFo];omega
 refine bh.set h h1 h2 iZ ?_ (λk hk=>nj w r _ k hk) (oH w r _) rfl rfl;have hb:=BR.cells (ρ:=ρ) s' ty g (c.toList.take (off+0)++vs++c.toList.drop (off+0+vs.length)).toArray lo hi (by rw[uQ,uh];omega) ?_ abb (h.Xk h1 h2 e1)
 .rw[uQ]at hb;exact hb
 .have:=w2;rw[uh,this]
  have e:(c.toList.take (off+0)++vs++c.toList.drop (off+0+vs.length)).toArray.toList.take s.length=(c.toList.take s.length).take off++(vs++(c.toList.take s.length).drop (off+t.length)):=by
   simp only[aEb,aDY,hlen];rw[aFm,aFm,aEH,aEH,Nat.min_comm off s.length,aDA (l:=vs) AI];rw[aFi,aDF,hlen,aFo (xs:=c),show s.length-min off c.size-t.length=s.length-(off+t.length) from pX]
  rw[e];exact(e4.take off).app (hv.app (e4.drop _))
end
section
variable {tmps:Array Value}{v':Value}{c x:CV}{s:Sem Value}{l:List Value}{t:TypeId}{i:Nat}{x':Value}{n:Nat}{p:CV}{p':Value}
abbrev Fr:=PT CV
inductive eP where
 |tmp (p:Nat)
 |const (v:CV)
def fC (fr:Fr)(p:Nat):CV:=Option.rec .undef (λv=>v) (fr.g p)
def ev (fr:Fr)(x:eP):CV:=eP.rec (λp=>fC fr p) (λv=>v) x
def FR (ρ:Ren)(fr:Fr)(tmps:Array Value):Prop:=∀t,VR ρ (fC fr (t)) (tmps.getD t Go.undef)
def FR.mono {ρ ρ':Ren}(hle:ρ.le ρ'){fr:Fr}(h:FR ρ fr tmps):FR ρ' fr tmps:=λt=>(h t).mono hle
def mq (fr:Fr)(p:Nat)(v:CV):fC (fr.put p (some v)) p=v:=by unfold fC;rw[PT.dg]
def mG (fr:Fr)(p q:Nat)(x:Option CV)(h:q≠p):fC (fr.put p x) q=fC fr q:=by unfold fC;rw[PT.dn _ _ _ _ h]
def FR.put {ρ:Ren}{fr:Fr}(h:FR ρ fr tmps){d:Nat}(hd:d<tmps.size){v:CV}(hv:VR ρ v v'):
 FR ρ (fr.put (d) (some v)) (tmps.setIfInBounds d v'):=by
 intro t
 by_cases e:t=d
 .subst e;rw[mq]
  simpa[hd]using hv
 .rw[mG _ _ _ _ (λe'=>e (e'))];have:(tmps.setIfInBounds d v').getD t Go.undef=tmps.getD t Go.undef:=by simp[aEy (aEr e)]
  rw[this];exact h t
def jy (v:Value):Option CV:=
 match v with
 | .bool b=>some (.bool b)
 | .int k n=>some (.int k n)
 | .string s=>some (.str s.data.toList)
 | .pointer none=>some .bk
 | .slice none 0 0=>some .ae
 | .map none=>some .fF
 | .func fn f c=>bz (Bool.and f.isEmpty c.isEmpty) (some (.func fn .nil .nil)) none
 | .nilFunc=>some .mm
 | .nilIface=>some .fZ
 | .tuple c=>bz c.isEmpty (some .undef) none
 |_=>none
def VR.jy {v:Value}(h:jy v=some c)(ρ:Ren):VR ρ c v:=by
 unfold Lim.jy at h
 split at h<;>try (cases h;done)
 .cases h;exact .bool _
 .cases h;exact .int _ _
 .cases h;rename_i s;have:=VR.str (ρ:=ρ) s.data.toList;rw[sP]at this;exact this
 .cases h;exact .bk
 .cases h;exact .ae
 .cases h;exact .fF
 .rename_i fn f c;rw[aO]at h
  split at h
  .rename_i hc;cases h;simp only[aDK,Array.isEmpty_iff]at hc;rw[hc.1,hc.2];exact VR.func fn .nil .nil [] [] rfl rfl (λi v v' h=>Wz) (λi v v' h=>Wz)
  .cases h
 .cases h;exact .mm
 .cases h;exact .fZ
 .rename_i c;rw[aO]at h
  split at h
  .rename_i hc;cases h;simp only[Array.isEmpty_iff]at hc;rw[hc];exact .undef
  .cases h
def qk (l:List Value):Option (List CV):=
 List.rec (some .nil) (λv _ r=>Option.rec none (λr=>Option.rec none (λc=>some (c.cA++r)) (jy v)) r) l
def ofValue (v:Value):Option CV:=
 match v with
 | .agg cs=>Option.rec none (λs=>some (.agg s)) (qk cs.toList)
 |v=>jy v
def Dw {v:Value}(h:jy v=some c):∀s,c≠ .agg s:=by
 intro s e;subst e;unfold jy at h
 split at h<;>first|(cases h;done)|(rw[aO]at h;split at h<;>cases h)
def vO:∀(l:List Value) (s:List CV),qk l=some s->∀ρ,eF ρ s l:=by
 intro l
 induction l with
 |nil=>intro s h ρ;cases h;exact eF.nil ρ
 |cons v l ih=>
  intro s h ρ;have e:qk (v::l)=Option.rec none (λr=>Option.rec none (λc=>some (c.cA++r)) (jy v)) (qk l):=rfl;rw[e]at h;cases hl:qk l with
  |none=>rw[hl]at h;cases h
  |some r=>
   rw[hl]at h;cases hv:jy v with
   |none=>rw[hv]at h;cases h
   |some c=>
    rw[hv]at h;cases h;rw[E6 (Dw hv)];exact eF.cons (VR.jy hv ρ) (ih r hl ρ)
def VR.ofValue {v:Value}(h:ofValue v=some c)(ρ:Ren):VR ρ c v:=by
 unfold Lim.ofValue at h
 split at h
 .rename_i cs;cases hc:qk cs.toList with
  |none=>rw[hc]at h;cases h
  |some s=>
   rw[hc]at h;cases h;exact VR.Ek (vO _ s hc ρ)
 .exact VR.jy h ρ
def eX (x:Operand):Option eP:=
 match x with
 | .tmp t=>some (.tmp (t))
 | .const v=>Option.rec none (λc=>some (.const c)) (ofValue v)
 | .func f=>some (.const (.func (.func f) .nil .nil))
 | .global _=>none
def bq {x:Operand}{c:eP}(h:eX x=some c){ρ:Ren}{fr:Fr}{a:Act}(hf:FR ρ fr a.tmps):VR ρ (ev fr c) (a.eval x):=by
 cases x with
 |tmp t=>cases h;exact hf t
 |const v=>
  have e:eX (.const v)=Option.rec none (λc=>some (.const c)) (ofValue v):=rfl;rw[e]at h;cases hv:ofValue v with
  |none=>rw[hv]at h;cases h
  |some c'=>rw[hv]at h;cases h;exact VR.ofValue hv ρ
 |func f=>cases h;exact VR.func _ .nil .nil [] [] rfl rfl (λi v v' h=>Wz) (λi v v' h=>Wz)
 |global g=>cases h
inductive OR where
 |ok (v:CV) (st:St)
 |bad
def bE (P:Program)(s:Sem Value)(ρ:Ren)(st:St)(w:World)(v:CV)(st':St):Prop:=
 ∃v' w' ρ',s.run P w=.ok v' w'/\VR ρ' v v'/\bh ρ st w ρ' st' w'
def CB (P:Program)(s:Sem Unit)(ρ:Ren)(st:St)(w:World)(v:CV)(st':St):Prop:=
 ∃w' ρ',s.run P w=.ok () w'/\v=.undef/\bh ρ st w ρ' st' w'
def Jy (P:Program)(s:Sem Next)(ρ:Ren)(st:St)(w:World)(v:CV)(st':St):Prop:=
 ∃x v' w' ρ',s.run P w=.ok x w'/\(x=.value v'\/(x=.skip/\v'=Go.undef))/\VR ρ' v v'/\bh ρ st w ρ' st' w'
section
variable {P:Program} {ρ:Ren} {st st':St} {w:World} {v:CV}
def bE.still (hw:WR ρ st w)(h:s.run P w=.ok v' w)(hv:VR ρ v v'):bE P s ρ st w v st:=⟨v',w,ρ,h,hv,bh.refl hw⟩
def bE.ib (h:bE P s ρ st w v st'):Jy P (do pure (Next.value (<-s))) ρ st w v st':=by
 obtain⟨v',w',ρ',h1,h2,h3⟩:=h;exact⟨.value v',v',w',ρ',abV,.inl rfl,h2,h3⟩
def CB.ib {s:Sem Unit}(h:CB P s ρ st w v st'):Jy P (do s;pure Next.skip) ρ st w v st':=by
 obtain⟨w',ρ',h1,rfl,h3⟩:=h;exact⟨.skip,Go.undef,w',ρ',abV,.inr ⟨rfl,rfl⟩,.undef,h3⟩
def bf (c a b:CV)(st:St):OR:=match c with| .bool t=>bz t (.ok a st) (.ok b st)|_=>.bad
def Fz {a b:CV}{c' a' b':Value}(h:bf c a b st=.ok v st')(hw:WR ρ st w)(hc:VR ρ c c')(ha:VR ρ a a')(hb:VR ρ b b'):
 Jy P (do pure (Next.value (if<-asBool c' then a' else b'))) ρ st w v st':=by
 unfold bf at h
 split at h
 .rename_i t;cases hc;cases t with
  |true=>cases h;exact⟨_,a',w,ρ,by simp[asBool],.inl rfl,ha,bh.refl hw⟩
  |false=>cases h;exact⟨_,b',w,ρ,by simp[asBool],.inl rfl,hb,bh.refl hw⟩
 .cases h
def bh.newRow {s:List CV}(hw:WR ρ st w)(hs:∀ρ',ρ.le ρ'->eF ρ' s l)(g:Bool):
 ∃ρ',(newRow t l.toArray).run P w=.ok ⟨w.heap.size,0,none⟩ {w with heap:=w.heap.push (.cells l.toArray t)}/\
  ρ' st.nx=some (w.heap.size,l.length)/\bh ρ st w ρ' (st.new (.cells s t g)) {w with heap:=w.heap.push (.cells l.toArray t)}:=by
 have gq:∀b x,ρ b=some x->b≠st.nx:=λb x hx e=>aag
 have hle:ρ.le (ρ.set st.nx (w.heap.size,l.length)):=λb _ hr=>aak
 have hv:=hs _ hle;have hlen:s.length=l.length:=by rw[hv.len]
 have hb:=BR.cells (ρ:=ρ.set st.nx (w.heap.size,l.length)) s t g l.toArray 0 0 (by simp[hlen]) (by
  rw[hlen];simpa using hv) pX (by intros;omega)
 have ha:=bh.new hw (blk:=.cells s t g) (o:=.cells l.toArray t) (sz:=l.length) aaN;exact⟨_,rfl,ha.2,ha.1⟩
def dG (t:TypeId)(s:List CV)(st:St):OR:=.ok (.ptr st.nx 0) ⟨st.m.put st.nx (some (.cells s t false)),st.nx+1⟩
def JR (t:TypeId)(s:List CV)(st:St):dG t s st=.ok (.ptr st.nx 0) (st.new (.cells s t false)):=by
 rfl
def Dv {z:List CV}{i:TypeInfo}{z':Value}(h:dG t z st=.ok v st')(hw:WR ρ st w)(hi:P.info? t=some i)(hz:i.zero=some z')
 (hc:∀ρ,eF ρ z z'.cells.toList):bE P (Instr.alloc t true (.tuple #[])) ρ st w v st':=by
 rw[JR]at h;cases h;obtain⟨ρ',h1,h2,h3⟩:=bh.newRow (P:=P) (t:=t) hw (λρ' _=>hc ρ') false;rw[aEU]at h1 h3;refine⟨.pointer (some ⟨w.heap.size,0,none⟩),_,ρ',?_,.ptr _ _ _ _ h2,h3⟩;simp[Instr.alloc,zeroValue,typeInfo,hi,hz,newVar,h1]
def IF (h:bz x.isAny .bad (dG t x.cA st)=.ok v st')(hw:WR ρ st w)(hx:VR ρ x x'):
 bE P (Instr.box t x') ρ st w v st':=by
 rw[aO]at h
 split at h
 .cases h
 rename_i hna;rw[JR]at h;cases h;obtain⟨ρ',h1,h2,h3⟩:=bh.newRow (P:=P) (t:=t) hw (λρ' hle=>(hx.mono hle).cA (by simpa using hna)) false;rw[aEU]at h1 h3;refine⟨.pointer (some ⟨w.heap.size,0,none⟩),_,ρ',?_,.ptr _ _ _ _ h2,h3⟩;simp[Instr.box,newVar,h1]
def aB (p:CV)(st:St):OR:=
 match p with
 | .ptr b off=>(match st.m.g b with
   |some (.cells s _ _)=>Option.rec .bad (λv=>.ok v st) (s[off]?)
   |some (.ro s _)=>Option.rec .bad (λv=>.ok v st) (s[off]?)
   |_=>.bad)
 |_=>.bad
def aK (n:Nat)(p:CV)(st:St):OR:=
 match p with
 | .ptr b off=>(match st.m.g b with
   |some (.cells s _ _)=>Option.rec .bad (λv=>.ok (.agg v) st) (ia s off n)
   |some (.ro s _)=>Option.rec .bad (λv=>.ok (.agg v) st) (ia s off n)
   |_=>.bad)
 |_=>.bad
def sU {s:List CV}(h:eF ρ s l){off:Nat}(hx:s[off]?=some x):∃x',l[off]?=some x'/\VR ρ x x':=by
 exact h.get hx
def vp {x:Value}(h:(l.take n)[i]?=some x):l[i]?=some x:=by
 rw[aFe]at h;split at h
 .exact h
 .cases h
def Dn (h:aB p st=.ok v st')(hw:WR ρ st w)(hp:VR ρ p p')(ht:(isAgg t).run P w=.ok false w):
 bE P (Instr.loadAt t p') ρ st w v st':=by
 unfold aB at h
 split at h
 .rename_i b off
  split at h
  .rename_i s t' g hm;cases hx:s[off]? with
   |none=>rw[hx]at h;cases h
   |some x=>
    rw[hx]at h;cases h;cases hp with
    |ptr _ _ r sz hr=>
     obtain⟨c,lo,hi,e1,e2,e3,e4,e5⟩:=hw.row hm hr;obtain⟨x',g1,g2⟩:=sU e4 hx;refine bE.still hw ?_ g2;simp[Instr.loadAt,Instr.sureAddr,loadVar,ht,nk P w r off c t' (lo,hi) x' e1 (vp g1),-run_load]
  .rename_i s o0 hm;cases hx:s[off]? with
   |none=>rw[hx]at h;cases h
   |some x=>
    rw[hx]at h;cases h;cases hp with
    |ptr _ _ r sz hr=>
     obtain⟨c,t',lo,hi,e1,e2,e3,e4⟩:=hw.Om hm hr;obtain⟨x',g1,g2⟩:=sU e4 hx;refine bE.still hw ?_ g2;simp[Instr.loadAt,Instr.sureAddr,loadVar,ht,nk P w r off c t' (lo,hi) x' e1 (vp g1),-run_load]
  .cases h
 .cases h
def Dm (h:aK n p st=.ok v st')(hw:WR ρ st w)(hp:VR ρ p p')(ht:(isAgg t).run P w=.ok true w)
 (hn:(Go.sizeOf t).run P w=.ok n w):bE P (Instr.loadAt t p') ρ st w v st':=by
 unfold aK at h
 split at h
 .rename_i b off
  split at h
  .rename_i s t' g hm;cases hx:ia s off n with
   |none=>rw[hx]at h;cases h
   |some x=>
    rw[hx]at h;cases h;cases hp with
    |ptr _ _ r sz hr=>
     obtain⟨c,lo,hi,e1,e2,e3,e4,e5⟩:=hw.row hm hr;obtain⟨g1,g2⟩:=jL hx;refine bE.still hw (v':=.agg ((c.toList.drop off).take n).toArray) ?_ (VR.Ek ?_)
     .simp[Instr.loadAt,Instr.sureAddr,loadVar,ht,hn,dW P w r off n c t' (lo,hi) e1 pX]
     .rw[show x=(s.drop off).take n from g2]
      have e:(c.toList.drop off).take n=((c.toList.take s.length).drop off).take n:=by
       rw[aFi,aEH,aEi pX]
      rw[e];exact(e4.drop off).take n
  .rename_i s o0 hm;cases hx:ia s off n with
   |none=>rw[hx]at h;cases h
   |some x=>
    rw[hx]at h;cases h;cases hp with
    |ptr _ _ r sz hr=>
     obtain⟨c,t',lo,hi,e1,e2,e3,e4⟩:=hw.Om hm hr;obtain⟨g1,g2⟩:=jL hx;refine bE.still hw (v':=.agg ((c.toList.drop off).take n).toArray) ?_ (VR.Ek ?_)
     .simp[Instr.loadAt,Instr.sureAddr,loadVar,ht,hn,dW P w r off n c t' (lo,hi) e1 pX]
     .rw[show x=(s.drop off).take n from g2]
      have e:(c.toList.drop off).take n=((c.toList.take s.length).drop off).take n:=by
       rw[aFi,aEH,aEi pX]
      rw[e];exact(e4.drop off).take n
  .cases h
 .cases h
def aQ (n:Nat)(p x:CV)(st:St):OR:=
 match p with
 | .ptr b off=>(match st.m.g b with
   |some (.cells s t g)=>(λxs=>bz (Bool.and (Nat.beq xs.length n) (aU xs)) (Option.rec .bad (λs'=>.ok .undef ⟨st.m.put b (some (.cells s' t g)),st.nx⟩) (dU s off xs)) .bad) x.cA
   |_=>.bad)
 |_=>.bad
def Dj (h:aQ n p x st=.ok v st')(hw:WR ρ st w)(hp:VR ρ p p')(hx:VR ρ x x')
 (hn:(Go.sizeOf t).run P w=.ok n w):CB P (Instr.storeAt t p' x') ρ st w v st':=by
 unfold aQ at h
 split at h
 .rename_i b off
  split at h
  .rename_i s t' g hm;simp only[aO,aDK,aDZ]at h
   split at h
   .rename_i hc;cases hs:dU s off x.cA with
    |none=>rw[hs]at h;cases h
    |some s'=>
     rw[hs]at h;cases h;cases hp with
     |ptr _ _ r sz hr=>
      obtain⟨w',h1,h2⟩:=bh.write (P:=P) hw hm hr hs (hx.cA (BN hc.2)) hc.2;refine⟨w',ρ,?_,rfl,h2⟩;have hl:x'.cells.size=n:=by have:=(hx.cA (BN hc.2)).len;rw[hc.1]at this;simpa using this.symm
      simp[Instr.storeAt,Instr.sureAddr,storeVar,hn,hl,h1]
   .cases h
  .cases h
 .cases h
def dC (x:CV)(st:St):OR:=match x with| .ptr .. | .iface .. | .func (.func _) _ _=>.ok x st|_=>.bad
def IB (h:dC x st=.ok v st')(hw:WR ρ st w)(hx:VR ρ x x'){o:Oper}{y:Operand}{f:Operand->Value}(ho:o.op=.nilCheck y)(hy:f y=x'):
 Jy P (execOp f o) ρ st w v st':=by
 unfold dC at h
 have key:∀{z:Value},f y=z->(match z with| .pointer none| .nilIface| .nilFunc| .func (.method _) _ _=>False|_=>True)->(execOp f o).run P w=.ok (.value z) w:=by
  intro z hz hn;unfold execOp;rw[ho];simp only[hz]
  split<;>first|(exact hn.elim)|rfl
 split at h
 .cases h;cases hx with|ptr _ _ _ _ hr=>exact⟨_,_,w,ρ,key hy trivial,.inl rfl,.ptr _ _ _ _ hr,bh.refl hw⟩
 .cases h;cases hx with|iface _ _ _ hr=>exact⟨_,_,w,ρ,key hy trivial,.inl rfl,.iface _ _ _ hr,bh.refl hw⟩
 .cases h;have A9:=hx;cases hx with|func _ _ _ f' c' hf hc h1 h2=>exact⟨_,_,w,ρ,key hy trivial,.inl rfl,A9,bh.refl hw⟩
 .cases h
def av (x:CV)(i:Nat)(st:St):OR:=match x with| .tuple s=>Option.rec .bad (λv=>.ok v st) (s[i]?)|_=>.bad
def zA (h:av x i st=.ok v st')(hw:WR ρ st w)(hx:VR ρ x x'):bE P (Instr.extract x' i) ρ st w v st':=by
 unfold av at h
 split at h
 .rename_i s;cases hs:s[i]? with
  |none=>rw[hs]at h;cases h
  |some y=>
   rw[hs]at h;cases h;cases hx with
   |tuple _ l hl hh=>
    obtain⟨y',g1,g2⟩:=sU (ρ:=ρ) (s:=s) ⟨hl,hh⟩ hs;refine bE.still hw ?_ g2;simp[Instr.extract,g1]
 .cases h
end
end
section
variable {s:List CV}{l:List Value}{t:TypeId}{i:TypeInfo}{u:TypeDesc}{n:Nat}{s2:List CV}{l2:List Value}
mutual
inductive jX where
 |bool|int|str|ptr|iface|slice|map|func
 |bytes (len:Nat)
 |struct (fs:Wl)
 |array (len size:Nat) (agg:Bool) (e:jX)
inductive Wl where
 |nil
 |cons (off size:Nat) (agg:Bool) (d:jX) (r:Wl)
end
def Sh (v:CV):Option UInt8:=match v with| .int .u8 (.ofNat n)=>if n<256 then some (.ofNat n)else none|_=>none
def Hx:List CV->Option (List UInt8)
 |[]=>some []
 |v::r=>match Sh v,Hx r with|some b,some l=>some (b::l)|_,_=>none
def HP (b:UInt8):Sh (bP b)=some b:=by
 have h:b.toNat<256:=b.toNat_lt;show(if b.toNat<256 then some (UInt8.ofNat b.toNat)else none)=some b;rw[aDy h];simp
def CF (l:List UInt8):Hx (l.map bP)=some l:=by
 induction l with
 |nil=>rfl
 |cons b l ih=>simp[Hx,HP,ih]
def KZ {v:CV}{b:UInt8}(h:Sh v=some b):v=bP b:=by
 unfold Sh at h
 split at h
 .rename_i n
  split at h
  .rename_i hn;cases h;show CV.int .u8 (.ofNat n)=.int .u8 (.ofNat (UInt8.ofNat n).toNat);rw[UInt8.toNat_ofNat',aFn pX]
  .cases h
 .cases h
def vo:∀{s:List CV} {l:List UInt8},Hx s=some l->s=l.map bP:=by
 intro s
 induction s with
 |nil=>intro l h;cases h;rfl
 |cons v r ih=>
  intro l h;simp only[Hx]at h
  split at h
  .rename_i b l' h1 h2;cases h;rw[aEc,KZ h1,<-ih h2]
  .cases h
def jf (agg:Bool)(off size:Nat)(s:List CV):Option CV:=
 bz agg (Option.rec none (λt=>some (.agg t)) (ia s off size)) (s[off]?)
def andThen (a:Option Bool)(b:Option Bool):Option Bool:=Option.rec none (λt=>bz t b (some false)) a
mutual
def nb:jX->CV->CV->Option Bool
 | .bool,x,y=>(match x,y with| .bool a,.bool b=>some (a==b)|_,_=>none)
 | .int,x,y=>(match x,y with| .int j a,.int k b=>bz (decide (j=k)) (some (decide (a=b))) none|_,_=>none)
 | .str,x,y=>(match x,y with| .str a,.str b=>some (a==b)|_,_=>none)
 | .ptr,x,y=>(match x,y with
   | .bk,.bk=>some true
   | .bk,.ptr _ _=>some false
   | .ptr _ _,.bk=>some false
   | .ptr b o,.ptr b' o'=>bz (decide (b=b')) (some (Nat.beq o o')) none
   |_,_=>none)
 | .iface,x,y=>(match x,y with
   | .fZ,.fZ=>some true
   | .fZ,.iface _ _=>some false
   | .iface _ _,.fZ=>some false
   |_,_=>none)
 | .slice,x,y=>(match x,y with
   | .ae,.ae=>some true
   | .ae,.slice .. =>some false
   | .slice ..,.ae=>some false
   |_,_=>none)
 | .map,x,y=>(match x,y with
   | .fF,.fF=>some true
   | .fF,.map _=>some false
   | .map _,.fF=>some false
   |_,_=>none)
 | .func,x,y=>(match x,y with
   | .mm,.mm=>some true
   | .mm,.func .. =>some false
   | .func ..,.mm=>some false
   |_,_=>none)
 | .bytes len,x,y=>(match x,y with
   | .agg s,.agg t=>(match Hx s,Hx t with|some a,some b=>bz (decide (a.length=len)&&decide (b.length=len)) (some (a==b)) none|_,_=>none)
   |_,_=>none)
 | .struct fs,x,y=>(match x,y with| .agg s,.agg t=>Ee fs s t|_,_=>none)
 | .array len size agg e,x,y=>(match x,y with
   | .agg s,.agg t=>Nat.rec (motive:=λ_=>Nat->Option Bool) (λ_=>some true)
    (λ_ ih off=>Option.rec none (λa=>Option.rec none (λb=>andThen (nb e a b) (ih (Nat.add off size))) (jf agg off size t)) (jf agg off size s)) len 0
   |_,_=>none)
def Ee:Wl->List CV->List CV->Option Bool
 | .nil,_,_=>some true
 | .cons off size agg d r,s,t=>Option.rec none (λa=>Option.rec none (λb=>andThen (nb d a b) (Ee r s t)) (jf agg off size t)) (jf agg off size s)
end
def im (u:TypeDesc):Bool:=match u with| .struct _| .array _ _=>true|_=>false
def oQ (P:Program)(desc:TypeId->Option jX)(fs:List Field):Option Wl:=
 match fs with
 |[]=>some .nil
 |f::r=>
  match decide (f.name= "_"),P.info? f.type,(P.underlying f.type),desc f.type,oQ P desc r with
  |false,some i,some u,some d,some r=>some (.cons f.offset i.size (im u) d r)
  |_,_,_,_,_=>none
def fQ (P:Program):Nat->TypeId->Option jX
 |0,_=>none
 |n+1,t=>
  match P.underlying t with
  |some .bool=>some .bool
  |some (.int _)=>some .int
  |some .string=>some .str
  |some (.pointer e)=>(match P.info? e with|some i=>bz (Nat.beq i.size 0) none (some .ptr)|none=>none)
  |some (.interface _)=>some .iface
  |some (.slice _)=>some .slice
  |some (.map _ _)=>some .map
  |some (.func _ _ _)=>some .func
  |some (.struct fs)=>bz (P.stoodInHeld t) none (match oQ P (fQ P n) fs.toList with|some l=>some (.struct l)|none=>none)
  |some (.array len e)=>
   (match P.info? e,P.underlying e with
   |some i,some (.int .u8)=>bz (Nat.beq i.size 1) (some (.bytes len)) none
   |some i,some u=>(match fQ P n e with|some d=>some (.array len i.size (im u) d)|none=>none)
   |_,_=>none)
  |_=>none
section
variable {P:Program} {ρ:Ren} {w:World}
def iz {agg:Bool}{off size:Nat}{x:CV}(h:jf agg off size s=some x)(hs:eF ρ s l)
 (hi:P.info? t=some i) (hn:i.size=size) (hu:P.underlying t=some u) (ha:(im u)=agg):
 ∃x',(part t l.toArray off).run P w=.ok x' w/\VR ρ x x':=by
 have h1:(isAgg t).run P w=.ok agg w:=by
  subst ha;cases u<;>simp[isAgg,aDC hu,im]
 unfold jf at h;rw[aO]at h
 split at h
 .rename_i hb;cases he:ia s off size with
  |none=>rw[he]at h;cases h
  |some y=>
   rw[he]at h;cases h;obtain⟨g1,g2⟩:=jL he;refine⟨.agg ((l.drop off).take size).toArray,?_,VR.Ek ?_⟩
   .simp[part,h1,hb,Go.sizeOf,typeInfo,hi,hn]
   .rw[show y=(s.drop off).take size from g2];exact(hs.drop off).take size
 .rename_i hb;obtain⟨x',g1,g2⟩:=sU hs h;have oO:agg=false:=by simpa using hb
  exact⟨x',by simp[part,h1,oO,g1],g2⟩
def VR.tr {l:List UInt8}{x':Value}(h:VR ρ (.agg (l.map bP)) x'):x'=.agg (l.map Extern.Stop.cell).toArray:=by
 cases h with
 |agg s m hl hh=>
  congr 2
  apply aFL;intro i;simp only[aEt]at hl
  by_cases hi:i<l.length
  .have h2:=hh i _ m[i] (by rw[aEf,aDu hi];rfl) rq;cases h2h:m[i]with
   |int k q=>
    rw[h2h]at h2;cases h2;rw[aEf,aDu hi,aDu pX,h2h];rfl
   |_=>rw[h2h]at h2;cases h2
  .rw[aEl pX,aEl AI]
def Em (P:Program)(w:World)(ρ:Ren)(d:jX)(t:TypeId)(n:Nat):Prop:=
 ∀(x y:CV) (x' y':Value) (b:Bool),nb d x y=some b->VR ρ x x'->VR ρ y y'->(Op.equalIn n t x' y').run P w=.ok b w
def Jr (len size:Nat)(agg:Bool)(e:jX)(hi:P.info? t=some i)(hn:i.size=size)(hu:P.underlying t=some u)
 (ha:(im u)=agg) (hf:Em P w ρ e t n)   (h1:eF ρ s l) (h2:eF ρ (row s2) l2):
 ∀(j:Nat) (b:Bool),Nat.rec (motive:=λ_=>Nat->Option Bool) (λ_=>some true)
  (λ_ ih off=>Option.rec none (λa=>Option.rec none (λb=>andThen (nb e a b) (ih (Nat.add off size))) (jf agg off size s2)) (jf agg off size s)) len (j*size)=some b->
  (Op.eqItems n t size l.toArray l2.toArray (List.range' j len)).run P w=.ok b w:=by
 induction len with
 |zero=>intro j b h;cases h;simp[Op.eqItems]
 |succ len ih=>
  intro j b h;rw[List.range'_succ];simp only at h;cases hx:jf agg (j*size) size s with
  |none=>rw[hx]at h;cases h
  |some x=>
   cases hy:jf agg (j*size) size s2 with
   |none=>rw[hx,hy]at h;cases h
   |some y=>
    rw[hx,hy]at h;simp only at h;cases hq:nb e x y with
    |none=>rw[hq]at h;cases h
    |some q=>
     rw[hq]at h;obtain⟨x',p1,v1⟩:=iz (P:=P) (w:=w) hx h1 hi hn hu ha;obtain⟨y',p2,v2⟩:=iz (P:=P) (w:=w) hy h2 hi hn hu ha;have hr:=hf x y x' y' q hq v1 v2;simp only[Op.eqItems,Sem.run_bind,p1,p2,hr,Result.andThen_ok];cases q with
     |false=>cases h;simp
     |true=>
      have:=ih (j+1) b (by rw[aEz,aFy];exact h)
      simpa using this
def Jq {desc:TypeId->Option jX}(hf:∀t d,desc t=some d->Em P w ρ d t n)(h1:eF ρ s l)(h2:eF ρ (row s2) l2):
 ∀(fs:List Field) (r:Wl) (b:Bool),oQ P desc fs=some r->Ee r s s2=some b->(Op.eqFields n l.toArray l2.toArray fs).run P w=.ok b w:=by
 intro fs
 induction fs with
 |nil=>intro r b h hb;cases h;simp only[Ee,aER]at hb;subst hb;simp[Op.eqFields]
 |cons f fs ih=>
  intro r b h hb;simp only[oQ]at h
  split at h
  .rename_i i u d r' gq hi hu hd hr;cases h;have ana:f.name≠ "_" :=by simpa using gq
   simp only[Ee]at hb;cases hx:jf (im u) f.offset i.size s with
   |none=>rw[hx]at hb;cases hb
   |some x=>
    cases hy:jf (im u) f.offset i.size s2 with
    |none=>rw[hx,hy]at hb;cases hb
    |some y=>
     rw[hx,hy]at hb;simp only at hb;cases hq:nb d x y with
     |none=>rw[hq]at hb;cases hb
     |some q=>
      rw[hq]at hb;obtain⟨x',p1,v1⟩:=iz (P:=P) (w:=w) hx h1 hi rfl hu rfl;obtain⟨y',p2,v2⟩:=iz (P:=P) (w:=w) hy h2 hi rfl hu rfl;have jM:=hf f.type d hd x y x' y' q hq v1 v2;simp only[Op.eqFields,ana,ne_eq,not_false_eq_true,aDQ,Sem.run_bind,p1,p2,jM,Result.andThen_ok];cases q with
      |false=>cases hb;simp
      |true=>simpa using ih r' b hr hb
  .cases h
def Qx:∀(f:Nat) (t:TypeId) (d:jX),fQ P f t=some d->∀n,f<n->Em P w ρ d t n:=by
 intro f
 induction f with
 |zero=>intro t d h;cases h
 |succ f ih=>
  intro t d h n hn x y x' y' b hb hx hy;obtain⟨m,rfl⟩:∃m,n=m+1:=⟨n-1,pX⟩;simp only[fQ]at h
  split at h
  ·
    rename_i hu;cases h;simp only[nb]at hb
    split at hb
    .cases hx;cases hy;cases hb;rename_i a b;rw[run_equalIn_bool' w m t a b hu]
    .cases hb
  .rename_i k hu;cases h;simp only[nb]at hb
   split at hb
   .rw[aO]at hb
    split at hb
    .rename_i hk;rw[FX]at hk;subst hk;cases hx;cases hy;cases hb;rw[run_equalIn_int w m t _ _ _ _ hu];rfl
    .cases hb
   .cases hb
  .rename_i hu;cases h;simp only[nb]at hb
   split at hb
   .cases hx;cases hy;cases hb;rename_i a b;rw[run_equalIn_string w m t _ _ hu]
    congr 1
    rw[aFV,beq_iff_eq,beq_iff_eq,ByteArray.toList_eq,ByteArray.toList_eq];simp[gI]
   .cases hb
  .rename_i e hu
   split at h
   .rename_i i hi;rw[aO]at h
    split at h
    .cases h
    .rename_i hz;cases h;have hz':i.size≠0:=by simpa using hz
     have hs:(Go.sizeOf e).run P w=.ok i.size w:=abc
     simp only[nb]at hb
     split at hb
     .cases hx;cases hy;cases hb;simp[Op.equalIn,aDC hu]
     .cases hx;cases hy;cases hb;simp[Op.equalIn,aDC hu]
     .cases hx;cases hy;cases hb;simp[Op.equalIn,aDC hu]
     .rename_i b1 o1 b2 o2;rw[aO]at hb
      split at hb
      .rename_i hq;simp only[aEJ]at hq;subst hq
       cases hx with|ptr _ _ r sz hr=>cases hy with|ptr _ _ r2 sz2 Cb=>
        rw[hr]at Cb;cases Cb;cases hb
        have e:((⟨r,o1,none⟩:Addr)==⟨r,o2,none⟩)=Nat.beq o1 o2:=by
         rw[aFV,beq_iff_eq,aDZ];simp
        simp[Op.equalIn,aDC hu,hs,hz',sameAddr,e]
      .cases hb
     .cases hb
   .cases h
  .rename_i ms hu;cases h;simp only[nb]at hb
   split at hb
   .cases hx;cases hy;cases hb;simp[Op.equalIn,aDC hu]
   .cases hx;cases hy;cases hb;simp[Op.equalIn,aDC hu]
   .cases hx;cases hy;cases hb;simp[Op.equalIn,aDC hu]
   .cases hb
  .rename_i e hu;cases h;simp only[nb]at hb
   split at hb
   .cases hx;cases hy;cases hb;simp[Op.equalIn,aDC hu]
   .cases hx;cases hy<;>cases hb<;>simp[Op.equalIn,aDC hu]
   .cases hy;cases hx<;>cases hb<;>simp[Op.equalIn,aDC hu]
   .cases hb
  .rename_i k e hu;cases h;simp only[nb]at hb
   split at hb
   .cases hx;cases hy;cases hb;simp[Op.equalIn,aDC hu]
   .cases hx;cases hy;cases hb;simp[Op.equalIn,aDC hu]
   .cases hx;cases hy;cases hb;simp[Op.equalIn,aDC hu]
   .cases hb
  .rename_i ps rs vv hu;cases h;simp only[nb]at hb
   split at hb
   .cases hx;cases hy;cases hb;simp[Op.equalIn,aDC hu]
   .cases hx;cases hy;cases hb;simp[Op.equalIn,aDC hu]
   .cases hx;cases hy;cases hb;simp[Op.equalIn,aDC hu]
   .cases hb
  ·
    rename_i fs hu;rw[aO]at h
    split at h
    .cases h
    .rename_i hst;have ami:P.stoodInHeld t=false:=by simpa using hst
     split at h
     .rename_i l hl;cases h;simp only[nb]at hb
      split at hb
      .rename_i s1 s2
       cases hx with|agg _ l1 xh TL=>cases hy with|agg _ l2 Ev hh2=>
        have hfo:P.fieldsOf t=fs:=by simp[Program.fieldsOf,hu]
        rw[run_equalIn_agg w m t _ _ (by rw[hfo];exact hu) ami,hfo];exact Jq (λt' d' hd=>ih t' d' hd m pX) ⟨xh,TL⟩ ⟨Ev,hh2⟩ fs.toList l b hl hb
      .cases hb
     .cases h
  ·
    rename_i len e hu
    split at h
    .rename_i i hi M5;rw[aO]at h
     split at h
     .rename_i h1;rw[aDZ]at h1;cases h;simp only[nb]at hb
      split at hb
      .rename_i s1 s2
       split at hb
       .rename_i a b2 ha HH;rw[aO]at hb
        split at hb
        .rename_i hq;simp only[aDK,aEJ]at hq;obtain⟨q1,q2⟩:=hq;cases hb;have e1:=vo ha;have e2:=vo HH;subst e1;subst e2;rw[hx.tr,hy.tr];obtain⟨m',rfl⟩:∃m',m=m'+1:=⟨m-1,pX⟩;rw[run_equalIn_bytes w m' t e _ hu M5 (λw=>by simp[Go.sizeOf,typeInfo,hi,h1]) _ _ q1 q2]
        .cases hb
       .cases hb
      .cases hb
     .cases h
    .rename_i i u gq hi M5
     split at h
     .rename_i d' hd;cases h;simp only[nb]at hb
      split at hb
      .rename_i s1 s2
       cases hx with|agg _ l1 xh TL=>cases hy with|agg _ l2 Ev hh2=>
        rw[run_equalIn_array w m _ _ hu hi,List.range_eq_range'];have uQ:P.cellsOf e=i.size:=by simp[Program.cellsOf,hi]
        rw[uQ];have:=Jr (P:=P) (w:=w) (ρ:=ρ) len i.size _ d' hi rfl M5 rfl (ih e d' hd m pX) (s:=s1) (s2:=s2) (l:=l1) (l2:=l2) ⟨xh,TL⟩ ⟨Ev,hh2⟩ 0 b aaN;exact this
      .cases hb
     .cases h
    .cases h
  .cases h
end
end
section
variable {op:BinOp}{t:TypeId}{X Y:Operand}{x y:CV}{x':Value}
abbrev yj (k:IntKind)(st:St)(r:Nat):OR:=.ok (.int k (r:Int)) st
def lT (op:BinOp)(k:IntKind)(a b:Int)(st:St):OR:=
 match op with
 | .add=>.ok (.int k (k.wrap (a+b))) st
 | .sub=>.ok (.int k (k.wrap (a-b))) st
 | .mul=>.ok (.int k (k.wrap (a*b))) st
 | .quo=>if b=0 then .bad else .ok (.int k (k.wrap (Int.tdiv a b))) st
 | .rem=>if b=0 then .bad else .ok (.int k (Int.tmod a b)) st
 | .eql=>.ok (.bool (decide (a=b))) st
 | .neq=>.ok (.bool (!decide (a=b))) st
 | .lss=>.ok (.bool (decide (a<b))) st
 | .leq=>.ok (.bool (decide (a<=b))) st
 | .gtr=>.ok (.bool (decide (b<a))) st
 | .geq=>.ok (.bool (decide (b<=a))) st
 | .shl| .shr=>.bad
 |op=>(match jP op k a b with|some r=>.ok (.int k r) st|none=>.bad)
def jK (op:BinOp)(k:IntKind)(a:Int)(j:IntKind)(b:Int)(st:St):OR:=
 match op with
 | .shl=>if b<0 then .bad else .ok (.int k (k.wrap (a*2^(min b.toNat k.bits)))) st
 | .shr=>if b<0 then .bad else .ok (.int k (a.fdiv (2^(min b.toNat k.bits)))) st
 |op=>if k=j then lT op k a b st else .bad
section
variable {P:Program} {ρ:Ren} {st st':St} {w:World} {v:CV}
def zd (op:BinOp)(t:TypeId)(k:IntKind)(a b r:Int)(DN:op=.and\/op=.or\/op=.xor\/op=.andNot)(h:jP op k a b=some r):
 (binOp op t (.int k a) (.int k b)).run P w=.ok (.int k r) w:=by
 have:=xH P w op k a b r h;rcases DN with rfl|rfl|rfl|rfl<;>simpa[binOp]using this
def ID {k j:IntKind}{a b:Int}(h:jK op k a j b st=.ok v st')(hw:WR ρ st w):
 bE P (binOp op t (.int k a) (.int j b)) ρ st w v st':=by
 have fin:∀{s:Sem Value} {r:Int},s.run P w=.ok (.int k r) w->bE P s ρ st w (.int k r) st:=λhr=>bE.still hw hr (.int _ _);have xq:∀{s:Sem Value} {r:Bool},s.run P w=.ok (.bool r) w->bE P s ρ st w (.bool r) st:=λhr=>bE.still hw hr (.bool _);unfold jK at h
 split at h
 .split at h
  .cases h
  .rename_i hb;cases h;refine fin ?_;simp[binOp,Op.shift,hb]
 .split at h
  .cases h
  .rename_i hb;cases h;refine fin ?_;simp[binOp,Op.shift,hb]
 .rename_i Cc hn2
  split at h
  .rename_i hk;subst hk;unfold lT at h
   split at h
   .cases h;exact fin aaU
   .cases h;exact fin aaU
   .cases h;exact fin aaU
   .split at h
    .cases h
    .rename_i hz;cases h;exact fin (by simp[binOp,Op.intDiv,hz])
   .split at h
    .cases h
    .rename_i hz;cases h;exact fin (by simp[binOp,Op.intDiv,hz])
   .cases h;exact xq (by simp[binOp,Op.intCmp];rfl)
   .cases h;exact xq (by simp[binOp,Op.intCmp,bne];rfl)
   .cases h;exact xq (by simp only[binOp,Op.intCmp];first|rfl|(simp;done))
   .cases h;exact xq (by simp only[binOp,Op.intCmp];first|rfl|(simp;done))
   .cases h;exact xq (by simp only[binOp,Op.intCmp];first|rfl|(simp;done))
   .cases h;exact xq (by simp only[binOp,Op.intCmp];first|rfl|(simp;done))
   .cases h
   .cases h
   .split at h
    .rename_i r hr;cases h;refine fin (zd _ t k a b r ?_ hr);cases op<;>simp_all[jP]
    .cases h
  .cases h
def rK (op:BinOp)(a b:List UInt8)(st:St):OR:=
 match op with
 | .add=>if a.length+b.length<=9223372036854775807 then .ok (.str (a++b)) st else .bad
 | .eql=>.ok (.bool (a==b)) st
 | .neq=>.ok (.bool (!(a==b))) st
 | .lss=>.ok (.bool (Op.bytesLess a b)) st
 | .leq=>.ok (.bool (Op.bytesLess a b||(a==b))) st
 | .gtr=>.ok (.bool (!(Op.bytesLess a b||(a==b)))) st
 | .geq=>.ok (.bool (!(Op.bytesLess a b))) st
 |_=>.bad
def EN (a b:List UInt8):gI a++gI b=gI (a++b):=by
 apply ByteArray.ext;show(_:ByteArray).data=_;simp[gI,ByteArray.data_append]
def kM (a:List UInt8):(gI a).toList=a:=by rw[ByteArray.toList_eq];simp[gI]
def IA {a b:List UInt8}(h:rK op a b st=.ok v st')(hw:WR ρ st w):
 bE P (binOp op t (.string (gI a)) (.string (gI b))) ρ st w v st':=by
 have xq:∀{s:Sem Value} {r:Bool},s.run P w=.ok (.bool r) w->bE P s ρ st w (.bool r) st:=λhr=>bE.still hw hr (.bool _);unfold rK at h
 split at h
 .split at h
  .rename_i hle;cases h;refine bE.still hw (v':=.string (gI a++gI b)) ?_ (by rw[EN];exact .str _);have hm:IntKind.i64.max=9223372036854775807:=by decide
   have:¬((((gI a).size+(gI b).size:Nat):Int)>IntKind.i64.max):=by
    rw[kN,kN,hm];omega
   simp only[binOp,Op.stringOp];rw[aDv this];rfl
  .cases h
 .cases h;exact xq WC
 .cases h;exact xq WC
 .cases h;exact xq WC
 .cases h;exact xq WC
 .cases h;exact xq WC
 .cases h;exact xq WC
 .cases h
def ME (d:jX)(AP:Bool)(x y:CV):Option Bool:=match x,y with| .fZ,.fZ=>bz AP (nb d x y) none|_,_=>nb d x y
def Hi (d:jX):Bool:=match d with| .bytes _| .struct _| .array .. =>true|_=>false
def pEq (op:BinOp)(d:jX)(AP:Bool)(x y:CV)(st:St):OR:=
 match op,ME d AP x y with
 | .eql,some b=>.ok (.bool b) st
 | .neq,some b=>.ok (.bool (!b)) st
 |_,_=>.bad
def vI (op:BinOp)(k:IntKind)(a:Int)(m:Nat)(st:St):OR:=
 match op,k with
 | .gtr,.i64=>bz (decide ((m:Int)<a)) .bad (.ok (.bool false) st)
 |_,_=>.bad
def ai (op:BinOp)(d:Option jX)(AP:Bool)(x y:CV)(st:St):OR:=
 match x,y with
 | .int k a,.int j b=>jK op k a j b st
 | .str a,.str b=>rK op a b st
 | .int k a,.gS m=>vI op k a m st
 | .gS _,_=>.bad
 |_,.gS _=>.bad
 | .any,_=>.bad
 |_,.any=>.bad
 |x,y=>(match d with|some d=>pEq op d AP x y st|none=>.bad)
def KN (x y:Operand):Bool:=(match x with| .const _=>true|_=>false)||(match y with| .const _=>true|_=>false)
def mr {a b:Value}(h1:¬(a=.nilIface/\b=.nilIface))(h2:∀c d,¬(a=.agg c/\b=.agg d)):
 (eqGuard op t X Y a b).run P w=.ok () w:=by
 cases op<;>first
  |rfl
  |(simp only[eqGuard,aDJ,aDp,aDE]
    split
    .exact absurd ⟨rfl,rfl⟩ h1
    .exact absurd ⟨rfl,rfl⟩ (h2 _ _)
    .rfl)
def GR (h:KN X Y=true):(eqGuard op t X Y .nilIface .nilIface).run P w=.ok () w:=by
 cases X<;>cases Y<;>first|(simp[KN]at h;done)|(cases op<;>rfl)
def Us {d:jX}{b:Bool}(h:nb d x y=some b){s:List CV}(hx:x=.agg s):Hi d=true:=by
 subst hx;cases d<;>simp[Hi,nb]at h⊢
def IG {d:Option jX}{AP:Bool}{y':Value}{f:Nat}(h:ai op d AP x y st=.ok v st')(hw:WR ρ st w)(hx:VR ρ x x')(hy:VR ρ y y')
 (hd:∀e,d=some e->fQ P f t=some e) (hf:f<10000) (hc:AP=KN X Y) (hg:∀e,d=some e->Hi e=true->P.eqGuardType P.depth t=false):
 bE P (do eqGuard op t X Y x' y';binOp op t x' y') ρ st w v st':=by
 have quiet:∀{a b:Value},(eqGuard op t X Y a b).run P w=.ok () w->bE P (binOp op t a b) ρ st w v st'->bE P (do eqGuard op t X Y a b;binOp op t a b) ρ st w v st':=by
  intro a b hq hd;obtain⟨v',w',ρ',h1,h2,h3⟩:=hd;exact⟨v',w',ρ',by simp[hq,h1],h2,h3⟩
 unfold ai at h
 split at h
 .cases hx;cases hy;exact quiet (mr rq rq) (ID h hw)
 .cases hx;cases hy;exact quiet (mr rq rq) (IA h hw)
 .rename_i q a m;cases hx;cases hy with
  |gS _ c hc=>
   unfold vI at h
   split at h
   .rw[aO]at h
    split at h
    .cases h
    .rename_i hlt;cases h;have h1':¬((m:Nat):Int)<a:=by simpa using hlt
     refine quiet (mr rq rq) (bE.still hw ?_ (.bool false));have h2:decide (c<a)=false:=AI
     simp[binOp];show Sem.run P (pure (Value.bool (decide (c<a)))) w=_;rw[h2];rfl
   .cases h
 .cases h
 .cases h
 .cases h
 .cases h
 .rename_i hna hax Gj hay hni hns hnc
  split at h
  .rename_i e
   have key:∀b,ME e AP x y=some b->(Op.equal t x' y').run P w=.ok b w/\(eqGuard op t X Y x' y').run P w=.ok () w:=by
    intro b hb
    have oO:nb e x y=some b:=by
     unfold ME at hb
     split at hb
     .rw[aO]at hb;split at hb
      .exact hb
      .cases hb
     .exact hb
    refine⟨Qx (P:=P) (w:=w) (ρ:=ρ) f t e (hd e rfl) 10000 hf x y x' y' b oO hx hy,?_⟩
    by_cases h1:x'=.nilIface/\y'=.nilIface
    .obtain⟨rfl,rfl⟩:=h1;cases hx<;>first|(exact absurd rfl hax)|skip
     cases hy<;>first|(exact absurd rfl hay)|skip
     have:AP=true:=by
      have e:ME e AP .fZ .fZ=bz AP (nb e .fZ .fZ) none:=rfl;rw[e,aO]at hb
      split at hb
      .assumption
      .cases hb
     exact GR (by rw[<-hc,this])
    .by_cases h2:∃c d,x'=.agg c/\y'=.agg d
     .obtain⟨c,d,rfl,rfl⟩:=h2;have:Hi e=true:=by cases hx with|agg s l _ _=>exact Us oO rfl|any=>exact absurd rfl hax
      exact run_eqGuard_agg w op t X Y c d (hg e rfl this)
     .exact mr h1 (λc d hh=>h2 ⟨c,d,hh⟩)
   have Ks:∀k k' a b,¬(x'=.int k a/\y'=.int k' b):=by
    rintro k k' a b ⟨rfl,rfl⟩;cases hx with
    |any=>exact hax rfl
    |gS _ _ _=>exact hna _ rfl
    |int _ _=>
     cases hy with
     |any=>exact hay rfl
     |gS _ _ _=>exact Gj _ rfl
     |int _ _=>exact hni _ _ _ _ rfl rfl
   unfold pEq at h
   split at h
   .rename_i b hb;obtain⟨k1,k2⟩:=key b hb;cases h;refine quiet k2 (bE.still hw ?_ (.bool b))
    cases hx<;>first
     |(exact absurd rfl hax)
     |(cases hy<;>first
      |(exact absurd rfl hay)
      |(exact absurd ⟨rfl,rfl⟩ (Ks _ _ _ _))
      |(exact(hns _ _ rfl rfl).elim)
      |(simp only[binOp];simp[k1]))
   .rename_i b hb;obtain⟨k1,k2⟩:=key b hb;cases h;refine quiet k2 (bE.still hw ?_ (.bool _))
    cases hx<;>first
     |(exact absurd rfl hax)
     |(cases hy<;>first
      |(exact absurd rfl hay)
      |(exact absurd ⟨rfl,rfl⟩ (Ks _ _ _ _))
      |(exact(hns _ _ rfl rfl).elim)
      |(simp only[binOp];simp[k1]))
   .cases h
  .cases h
def kF (op:UnOp)(x:CV)(st:St):OR:=
 match op,x with
 | .not,.bool b=>.ok (.bool (!b)) st
 | .neg,.int k n=>.ok (.int k (k.wrap (0-n))) st
 | .xor,.int k n=>(match jP .xor k (if k.signed then-1 else k.max) n with|some r=>.ok (.int k r) st|none=>.bad)
 |_,_=>.bad
def LH {op:UnOp}(h:kF op x st=.ok v st')(hw:WR ρ st w)(hx:VR ρ x x'):bE P (Op.unary op x') ρ st w v st':=by
 unfold kF at h
 split at h
 .cases h;cases hx;exact bE.still hw rfl (.bool _)
 .cases h;cases hx;exact bE.still hw rfl (.int _ _)
 .rename_i k n
  split at h
  .rename_i r hr;cases h;cases hx;exact bE.still hw (xH P w .xor k _ n r hr) (.int _ _)
  .cases h
 .cases h
end
end
