import Derived.WalkKit
import Derived.ChangeKeysEq
import Derived.Stop.BytesEq
namespace Lim
open Go
abbrev aEL:=@List.getElem?_cons_zero
abbrev aEM:=@Bool.false_eq_true
abbrev aEN:=@List.getElem?_cons_succ
abbrev aEO:=@decide_eq_false
abbrev aEP:=@List.mem_cons
abbrev aEQ:=@Nat.le_refl
abbrev aER:=@Nat.zero_add
abbrev aES:=@List.getElem?_eq_getElem
abbrev aET:=@if_neg
abbrev aEU:=@List.length_append
abbrev aEV:=@decide_eq_true
abbrev aEW:=@if_pos
abbrev aEX:=@List.take_of_length_le
abbrev aEY:=@List.mem_append
abbrev aEZ:=@run_underlying
abbrev aFa:=@if_false
abbrev aFb:=@List.getElem?_eq_some_iff
abbrev aFc:=@List.length_take
abbrev aFd:=@List.nodup_cons
abbrev aFe:=@List.take_succ_eq_append_getElem
abbrev aFf:=@Bool.not_false
abbrev aFg:=@Nat.lt_of_lt_of_le
abbrev aFh:=@Bool.not_true
abbrev aFi:=@List.length_eq_zero_iff
abbrev aFj:=@List.getElem_mem
abbrev aFk:=@List.drop_eq_getElem_cons
abbrev aFl:=@Bool.and_eq_true
abbrev aFm:=@if_true
abbrev aFn:=@List.length_drop
abbrev aFo:=@decide_eq_decide
abbrev aFp:=@List.length_cons
abbrev aFq:=@List.mem_map
abbrev aFr:=@List.drop_zero
abbrev aFs:=@Nat.ble_eq
abbrev aFt:=@List.nil_append
abbrev aFu:=@List.drop_of_length_le
abbrev aFv:=@List.map_cons
abbrev aFw:=@Nat.beq_eq
abbrev aFx:=@List.append_assoc
abbrev aFy:=@List.not_mem_nil
abbrev aFz:=@List.mem_of_mem_take
abbrev aFA:=@List.getElem?_map
abbrev aFB:=@Array.getElem?_eq_some_iff
abbrev aFC:=@Nat.add_zero
abbrev aFD:=@List.take_append_drop
abbrev aFE:=@List.mem_cons_of_mem
abbrev aFF:=@List.mem_of_mem_drop
abbrev aFG:=@Nat.min_eq_left
abbrev aFH:=@Nat.mul_le_mul_right
abbrev aFI:=@List.length_replicate
abbrev aFJ:=@List.mem_of_getElem?
abbrev aFK:=@List.length_map
abbrev aFL:=@Ne.symm
abbrev aFM:=@List.nodup_append
abbrev aFN:=@List.append_nil
abbrev aFO:=@Bool.or_eq_true
abbrev aFP:=@List.getElem_of_mem
abbrev aFQ:=@List.getElem?_eq_none
abbrev aFR:=@List.map_append
abbrev aFS:=@List.cons_append
abbrev aFT:=@List.mem_cons_self
abbrev aFU:=@Nat.eq_of_mul_eq_mul_right
abbrev aFV:=@Array.getElem?_setIfInBounds_ne
abbrev aFW:=@Nat.add_mul
abbrev aFX:=@List.mem_map_of_mem
abbrev aFY:=@Nat.add_sub_cancel
abbrev aFZ:=@decide_true
abbrev aGa:=@decide_eq_true_eq
abbrev aGb:=@Nat.le_trans
abbrev aGc:=@Option.map_some
abbrev aGd:=@List.mem_singleton
abbrev aGe:=@List.getElem?_append_right
abbrev aGf:=@List.take_take
abbrev aGg:=@List.getElem?_toArray
abbrev aGh:=@Nat.lt_or_ge
abbrev aGi:=@Option.getD_some
abbrev aGj:=@List.take_left'
abbrev aGk:=@not_or
abbrev aGl:=@List.map_drop
abbrev aGm:=@List.mem_filter
abbrev aGn:=@List.cons.injEq
abbrev aGo:=@List.filter_cons
abbrev aGp:=@Option.some.injEq
abbrev aGq:=@List.flatten_cons
abbrev aGr:=@List.getElem?_append_left
abbrev aGs:=@Array.toArray_toList
abbrev aGt:=@or_false
abbrev aGu:=@List.length_nil
abbrev aGv:=@decide_false
abbrev aGw:=@Array.toList_map
abbrev aGx:=@List.map_take
abbrev aGy:=@List.filter_append
abbrev aGz:=@Nat.mod_eq_of_lt
abbrev aGA:=@Prod.mk.injEq
abbrev aGB:=@Nat.mul_one
abbrev aGC:=@List.perm_iff_count
abbrev aGD:=@List.drop_take
abbrev aGE:=@List.getElem?_take
abbrev aGF:=@List.set_eq_take_append_cons_drop
abbrev aGG:=@List.reverse_reverse
abbrev aGH:=@List.take_append
abbrev aGI:=@Array.length_toList
abbrev aGJ:=@List.flatten_append
abbrev aGK:=@List.count_append
abbrev aGL:=@List.mem_or_eq_of_mem_set
abbrev aGM:=@List.take_zero
abbrev aGN:=@Nat.mul_comm
abbrev aGO:=@List.mem_append_left
abbrev aGP:=@List.pairwise_append
abbrev aGQ:=@Nat.add_sub_cancel_left
abbrev aGR:=@List.pairwise_map
abbrev aGS:=@List.foldl_append
abbrev aGT:=@Nat.one_mul
abbrev aGU:=@Bool.eq_iff_iff
abbrev aGV:=@List.replicate_succ
abbrev aGW:=@List.drop_replicate
abbrev aGX:=@List.length_pos_iff
abbrev aGY:=@List.count_cons
abbrev aGZ:=@List.findIdx_le_length
abbrev aHa:=@true_and
abbrev aHb:=@List.getD_eq_getElem?_getD
abbrev aHc:=@List.getElem_map
abbrev aHd:=@Int.natCast_nonneg
abbrev aHe:=@Nat.eq_or_lt_of_le
abbrev aHf:=@List.length_filter_le
abbrev aHg:=@List.pairwise_iff_getElem
abbrev aHh:=@List.size_toArray
abbrev aHi:=@List.ext_getElem?
abbrev aHj:=@Option.some.inj
abbrev aHk:=@List.find?_cons
abbrev aHl:=@List.map_map
abbrev aHm:=@Array.getElem?_push
abbrev aHn:=@List.drop_drop
abbrev aHo:=@List.nodup_nil
abbrev aHp:=@List.getElem?_drop
abbrev aHq:=@Array.toList_range
abbrev aHr:=@Option.isSome_some
abbrev aHs:=@List.pairwise_cons
abbrev aHt:=@Nat.zero_le
abbrev aHu:=@Array.getElem?_append
abbrev aHv:=@Nat.succ_le_iff
abbrev aHw:=@Nat.pow_succ
abbrev aHx:=@List.drop_left'
abbrev aHy:=@Int.toNat_natCast
abbrev aHz:=@Bool.true_and
abbrev aHA:=@Bool.not_eq_true'
abbrev aHB:=@List.find?_append
abbrev aHC:=@Nat.mul_le_mul
abbrev aHD:=@Bool.false_and
abbrev aHE:=@Nat.add_comm
noncomputable section
set_option linter.defProp false
def qE{p:Prop}(h:p:=by omega):p:=h
def uG{p:Prop}(h:p:=by simp):p:=h
def u7{p:Prop}(h:p:=by decide):p:=h
def vN{p:Prop}(h:p:=by kernel_rfl):p:=h
def vR{p:Prop}(h:p:=by simp;omega):p:=h
def xt{p:Prop}(h:p:=by rw[az,cO,bz (by omega)];rfl):p:=h
def zz{p:Prop}(h:p:=by rw[az,dx];congr 2;simp only[aFo];omega):p:=h
def Bw{p:Prop}(h:p:=by rw[az,dR,bz (by omega)];congr 2;omega):p:=h
def Dx{p:Prop}(h:p:=by simpa using hc):p:=h
def Ft{p:Prop}(h:p:=by rw[az,cI,aEO (by omega)]):p:=h
def Im{p:Prop}(h:p:=by have:=rI b hb;omega):p:=h
def IN{p:Prop}(h:p:=by rw[az,iy];congr 2;simp only[aFo];omega):p:=h
def Mr{p:Prop}(h:p:=by have:=pO b hb;omega):p:=h
def Oh{p:Prop}(h:p:=by rw[az,cO,bz (by omega)];congr 2):p:=h
def OX{p:Prop}(h:p:=by rw[az,cI];congr 2;simp only[aFo];omega):p:=h
def OY{p:Prop}(h:p:=by simpa using h):p:=h
def OZ{p:Prop}(h:p:=by simpa using hlt):p:=h
def O0{p:Prop}(h:p:=by rw[aFc];omega):p:=h
def O1{p:Prop}(h:p:=by simpa using hi):p:=h
def O2{p:Prop}(h:p:=by simp[hb]):p:=h
def O3{p:Prop}(h:p:=by rw[az,je,bz (by omega)];rfl):p:=h
def O4{p:Prop}(h:p:=by rw[aFr,aEX (by omega)]):p:=h
def O5{p:Prop}(h:p:=by simpa using hx):p:=h
def O6{p:Prop}(h:p:=by rw[<-hl];rfl):p:=h
def O7{p:Prop}(h:p:=by rw[show List.findIdx (λc:dh=>decide (lp key c.key)) n.cells=n.find key from rfl,<-h];exact hc):p:=h
def O8{p:Prop}(h:p:=by simpa using h1):p:=h
def O9{p:Prop}(h:p:=by have:=(hF q hq).2;omega):p:=h
def Pa{p:Prop}(h:p:=by simp at h):p:=h
def Pb{p:Prop}(h:p:=by simp[h]):p:=h
def Pc{p:Prop}(h:p:=by rw[aFn];omega):p:=h
def Te{p:Prop}(h:p:=by simp[binOp,Op.stringOp,kU]):p:=h
def TN{p:Prop}(h:p:=by simp[hq]):p:=h
def TO{p:Prop}(h:p:=by rw[az,c8];congr 2;simp only[aFo];omega):p:=h
def TP{p:Prop}(h:p:=by simp[hq x hx]):p:=h
def TS{p:Prop}(h:p:=by simp[jX,lP]):p:=h
def TT{p:Prop}(h:p:=by simp[aU]):p:=h
def TV{p:Prop}(h:p:=by simpa using h2):p:=h
def Wr{p:Prop}(h:p:=by have:=h.lt;omega):p:=h
def Yi{p:Prop}(h:p:=by simp[hx]):p:=h
def Yj{p:Prop}(h:p:=by have:=hF b hb;simp;omega):p:=h
def Yk{p:Prop}(h:p:=by rw[bB];omega):p:=h
def Yl{p:Prop}(h:p:=by rw[az,c8,aEO (by omega)]):p:=h
def Ym{p:Prop}(h:p:=by have:=h.pg.lt b hh;omega):p:=h
def Yn{p:Prop}(h:p:=by simp[zeroValue,typeInfo,hi,hz]):p:=h
def aak{p:Prop}(h:p:=by have:=mV q hh;omega):p:=h
def aap{p:Prop}(h:p:=by have:=pO _ hh;omega):p:=h
def aaq{p:Prop}(h:p:=by rw[bz (by omega)];omega):p:=h
def aau{p:Prop}(h:p:=by have:=(rI b hb).2;omega):p:=h
def aaC{p:Prop}(h:p:=by have:=hw.fresh b x hx;rw[e]at this;omega):p:=h
def aaD{p:Prop}(h:p:=by rw[Ren.dA _ _ _ _ (ij b _ hr)];exact hr):p:=h
def aaE{p:Prop}(h:p:=by rw[dB.len];exact aEQ _):p:=h
def aaT{p:Prop}(h:p:=by simpa using he):p:=h
def aaX{p:Prop}(h:p:=by simpa using hs):p:=h
def aaY{p:Prop}(h:p:=by have:=wK (i:=0) hj;simpa using this):p:=h
def aaZ{p:Prop}(h:p:=by rw[e];unfold De;rw[hc];dsimp only;rw[hv];exact hN m hm):p:=h
def abe{p:Prop}(h:p:=by rw[al _ _ _ _ (by omega),bg _ _ _ (by omega)];exact g1):p:=h
def abi{p:Prop}(h:p:=by rw[al _ _ _ _ (by omega),bg _ _ _ (by omega)];exact g3):p:=h
def abF{p:Prop}(h:p:=by rw[Ren.dA _ _ _ _ (λe=>by rw[e]at hq;omega)];exact hn):p:=h
def abG{p:Prop}(h:p:=by rw[aFs];omega):p:=h
def abJ{p:Prop}(h:p:=by split<;>omega):p:=h
def abK{p:Prop}(h:p:=by simp[aj]):p:=h
def abL{p:Prop}(h:p:=by rw[t3];exact hB):p:=h
def abM{p:Prop}(h:p:=by rw[bB,Sk];omega):p:=h
def abN{p:Prop}(h:p:=by have:=b.node.ok.cell;rw[b.inner]at this;exact this):p:=h
def abP{p:Prop}(h:p:=by rw[aFr,aEX (by rw[bB,Sk];omega)]):p:=h
def abQ{p:Prop}(h:p:=by have:=(a3 b hb).1;omega):p:=h
def abR{p:Prop}(h:p:=by simpa using ij):p:=h
def abS{p:Prop}(h:p:=by rw[List.length_zip,dB.len];simp):p:=h
def abT{p:Prop}(h:p:=by simp[o1]):p:=h
def abU{p:Prop}(h:p:=by rw[<-i2 q λj t g1 g2=>hq j t g1 (by omega),Ip]):p:=h
def abV{p:Prop}(h:p:=by simp[x2,y2]):p:=h
def abW{p:Prop}(h:p:=by simp[binOp,Op.intArith]<;>rfl):p:=h
def abX{p:Prop}(h:p:=by rw[fL];decide):p:=h
def abY{p:Prop}(h:p:=by show 1+D.aA.length/4<=_;omega):p:=h
def acf{p:Prop}(h:p:=by rw[<-e];exact h1):p:=h
def acg{p:Prop}(h:p:=by unfold PI.W;simp):p:=h
def ach{p:Prop}(h:p:=by rw[hcs];rw[e2]at e5;exact e5):p:=h
def aci{p:Prop}(h:p:=by rw[tM hu,show iF u=false by simpa using ha]):p:=h
def acj{p:Prop}(h:p:=by unfold db;simp;omega):p:=h
def ack{p:Prop}(h:p:=by simp[Go.sizeOf,typeInfo,hi]):p:=h
def acm{p:Prop}(h:p:=by rw[<-wN];exact c2.mono (xK.mono (by simp))):p:=h
def acn{p:Prop}(h:p:=by rw[<-wN];exact c2.mono (Es.mono (by simp))):p:=h
def aco{p:Prop}(h:p:=by rw[<-wN];exact c2.mono (Et.mono (by simp))):p:=h
def acp{p:Prop}(h:p:=by simp only[aEP,aEY,aGk];exact⟨x4,x5,x6,x7⟩):p:=h
def acq{p:Prop}(h:p:=by simp only[aEP,aEY,aGk];exact⟨dd,dm,dw,dj⟩):p:=h
def acr{p:Prop}(h:p:=by have:=lc b hb;omega):p:=h
def acs{p:Prop}(h:p:=by have:=Ki b hb;omega):p:=h
def acu{p:Prop}(h:p:=by show 0<D.aA.length/4;omega):p:=h
def acv{p:Prop}(h:p:=by simpa using hb):p:=h
def acw{p:Prop}(h:p:=by simpa using hj):p:=h
def acx{p:Prop}(h:p:=by simpa using hT):p:=h
def acy{p:Prop}(h:p:=by have:=pO b hb;rw[al _ _ _ _ (by omega)]):p:=h
def acz{p:Prop}(h:p:=by have:=rI b hb;rw[al _ _ _ _ (by omega)]):p:=h
def acA{p:Prop}(h:p:=by show base<=_;omega):p:=h
def acB{p:Prop}(h:p:=by simpa using (List.mem_range'_1.1 hj).2):p:=h
def acC{p:Prop}(h:p:=by rw[mF _ _ _ (by simp[uy];omega)];omega):p:=h
def acD{p:Prop}(h:p:=by simp[Builtin.firstCells]):p:=h
def acE{p:Prop}(h:p:=by have:=h.pg.lt _ hh;omega):p:=h
def acF{p:Prop}(h:p:=by rw[az,dx,aEV (by omega)]):p:=h
def acG{p:Prop}(h:p:=by rw[<-aGs (xs:=args'),e1]):p:=h
def acH{p:Prop}(h:p:=by simpa using a):p:=h
def acI{p:Prop}(h:p:=by rw[<-e4];exact h1):p:=h
def acJ{p:Prop}(h:p:=by rw[h.eq];simp):p:=h
def acK{p:Prop}(h:p:=by have:=rK.nx;omega):p:=h
def acL{p:Prop}(h:p:=by have:=ht.lt;omega):p:=h
def acM{p:Prop}(h:p:=by rw[h.eq];simpa using hb):p:=h
def acN{p:Prop}(h:p:=by have:=(Nx q hq).1;omega):p:=h
def acO{p:Prop}(h:p:=by have:=(Nx b hb).1;omega):p:=h
def acP{p:Prop}(h:p:=by rw[az,dR,bz (by omega)]):p:=h
def acQ{p:Prop}(h:p:=by have:=(a3 q hq).1;omega):p:=h
def acR{p:Prop}(h:p:=by have:=(hF b hb).2;omega):p:=h
def acS{p:Prop}(h:p:=by have:=(Ki _ hh).1;omega):p:=h
def acT{p:Prop}(h:p:=by have:=(rI b hb).1;omega):p:=h
def acU{p:Prop}(h:p:=by unfold cq;split<;>omega):p:=h
def acV{p:Prop}(h:p:=by simp[eY]):p:=h
def acW{p:Prop}(h:p:=by rw[aGw];exact Xj):p:=h
def acX{p:Prop}(h:p:=by have:=h.n1;omega):p:=h
def acY{p:Prop}(h:p:=by simp only[aFl,aFs];exact⟨hk,q1,q2⟩):p:=h
def acZ{p:Prop}(h:p:=by rw[QN];exact e1):p:=h
def ada{p:Prop}(h:p:=by simp at hb;simp;omega):p:=h
def adb{p:Prop}(h:p:=by rw[tZ,aEW (by omega)]):p:=h
def ade{p:Prop}(h:p:=by unfold PI.all;simp[e]):p:=h
def adf{p:Prop}(h:p:=by simpa using hl):p:=h
def adg{p:Prop}(h:p:=by rw[e];exact tN):p:=h
def adh{p:Prop}(h:p:=by simp[uy];omega):p:=h
def adp{p:Prop}(h:p:=by simpa using wR):p:=h
def adx{p:Prop}(h:p:=by simpa using hn.symm):p:=h
def ady{p:Prop}(h:p:=by simp at hx;simp[hx]):p:=h
def adC{p:Prop}(h:p:=by have:=lF b hb;omega):p:=h
def adN{p:Prop}(h:p:=by simp at hh;simp[hh]):p:=h
def adW{p:Prop}(h:p:=by have:=pO q hq;omega):p:=h
def adZ{p:Prop}(h:p:=by simpa using b):p:=h
def aee{p:Prop}(h:p:=by rw[aEU];omega):p:=h
def aef{p:Prop}(h:p:=by simp[bp.size]):p:=h
def aeh{p:Prop}(h:p:=by rw[aFW];omega):p:=h
def ael{p:Prop}(h:p:=by exact λ_ h=>.inl h):p:=h
def aer:True:=trivial
def PT (α:Type):=Nat->Option α
namespace PT
variable {α:Type}
def g (t:PT α)(p:Nat):Option α:=t p
def put (t:PT α)(p:Nat)(x:Option α):PT α:=λq=>if q=p then x else t q
def nil:PT α:=λ_=>none
def eZ (t:PT α)(p q:Nat)(x:Option α):(t.put p x).g q=if q=p then x else t.g q:=rfl
def dn (t:PT α)(p:Nat)(x:Option α):(t.put p x).g p=x:=by simp[eZ]
def dv (t:PT α)(p q:Nat)(x:Option α)(h:q≠p):(t.put p x).g q=t.g q:=by simp[eZ,h]
@[simp] def get_nil (p:Nat):(nil:PT α).g p=none:=rfl
def ext {t u:PT α}(h:∀p,t.g p=u.g p):t=u:=funext h
end PT
def bH {α:Type}(b:Bool)(t f:α):α:=if b=true then t else f
@[simp] def aP {α:Type}(b:Bool)(t f:α):bH b t f=if b=true then t else f:=rfl
def oJ {α β:Type}(x:α)(k:α->β):β:=k x
@[simp] def dI {α β:Type}(x:α)(k:α->β):oJ x k=k x:=rfl
inductive CV where
 |undef
 |bool (b:Bool)
 |int (k:IntKind) (n:Int)
 |str (l:List UInt8)
 |bA
 |ptr (b:Nat) (off:Nat)
 |ae
 |slice (b:Nat) (off len cap grow:Nat)
 |fY
 |map (b:Nat)
 |func (fn:Fn) (first captured:List CV)
 |mq
 |iface (t:TypeId) (v:CV)
 |gz
 |agg (s:List CV)
 |tuple (s:List CV)
 |ib (n:Nat)
 |any
 |mQ
def bQ (b:UInt8):CV:=.int .u8 b.toNat
abbrev row (s:List CV):List CV:=s
def gV {α:Type}(s:List α)(off n:Nat):Option (List α):=if off+n<=s.length then some ((s.drop off).take n)else none
def dY {α:Type}(s:List α)(off:Nat)(t:List α):Option (List α):=if off+t.length<=s.length then some (s.take off++(t++s.drop (off+t.length)))else none
def jY {α:Type}{s t:List α}{off n:Nat}(h:gV s off n=some t):off+n<=s.length/\t=(s.drop off).take n:=by
 unfold gV at h;split at h
 .cases h;exact⟨by assumption,rfl⟩
 .cases h
def ym {α:Type}{s t s':List α}{off:Nat}(h:dY s off t=some s'):off+t.length<=s.length/\s'=s.take off++(t++s.drop (off+t.length)):=by
 unfold dY at h;split at h
 .cases h;exact⟨by assumption,rfl⟩
 .cases h
section
variable {v:CV}{v':Value}{l:List CV}{l':List Value}{o:Obj}{w':World}{sz r:Nat}
inductive qB where
 |cells (s:List CV) (t:TypeId) (grow:Bool)
 |map (es:List (CV×CV×Nat)) (clock:Nat)
 |lmap (es:List (CV×CV×Nat))
 |ro (s:List CV) (o:Obj)
structure St where
 m:PT qB
 nx:Nat
abbrev Ren:=Nat->Option (Nat×Nat)
def strB (l:List UInt8):ByteArray:=⟨l.toArray⟩
@[simp] def kV (l:List UInt8):(strB l).size=l.length:=by simp[strB,ByteArray.size]
def pR (s:ByteArray):strB s.data.toList=s:=by cases s;simp[strB]
inductive VR (ρ:Ren):CV->Value->Prop where
 |undef:VR ρ .undef (.tuple #[])
 |bool (b:Bool):VR ρ (.bool b) (.bool b)
 |int (k:IntKind) (n:Int):VR ρ (.int k n) (.int k n)
 |str (l:List UInt8):VR ρ (.str l) (.string (strB l))
 |bA:VR ρ .bA (.pointer none)
 |ptr (b:Nat) (off r sz:Nat) (h:ρ b=some (r,sz)):VR ρ (.ptr b off) (.pointer (some ⟨r,off,none⟩))
 |ae:VR ρ .ae (.slice none 0 0)
 |slice (b:Nat) (off len cap r sz:Nat) (h:ρ b=some (r,sz)):VR ρ (.slice b off len cap 0) (.slice (some ⟨r,off,none⟩) len cap)
 |nU (b:Nat) (off dE len cap fy grow r sz:Nat) (h:ρ b=some (r,sz)) (hg:0<grow) (hl:len<=cap) (hc:cap<=fy) (ho:0<cap->dE=off)
  (hs:dE+fy*grow<=sz):VR ρ (.slice b off len cap grow) (.slice (some ⟨r,dE,none⟩) len fy)
 |fY:VR ρ .fY (.map none)
 |map (b:Nat) (r sz:Nat) (h:ρ b=some (r,sz)):VR ρ (.map b) (.map (some r))
 |func (fn:Fn) (f c:List CV) (f' c':List Value) (hf:(row f).length=f'.length) (hc:(row c).length=c'.length)
  (h1:∀(i:Nat) (v:CV) (v':Value),(row f)[i]?=some v->f'[i]?=some v'->VR ρ v v')
  (h2:∀(i:Nat) (v:CV) (v':Value),(row c)[i]?=some v->c'[i]?=some v'->VR ρ v v'):VR ρ (.func fn f c) (.func fn f'.toArray c'.toArray)
 |mq:VR ρ .mq .nilFunc
 |iface (t:TypeId) (v:CV) (v':Value) (h:VR ρ v v'):VR ρ (.iface t v) (.iface t v')
 |gz:VR ρ .gz .nilIface
 |agg (s:List CV) (l:List Value) (hl:(row s).length=l.length)
  (h:∀(i:Nat) (v:CV) (v':Value),(row s)[i]?=some v->l[i]?=some v'->VR ρ v v'):VR ρ (.agg s) (.agg l.toArray)
 |tuple (s:List CV) (l:List Value) (hl:(row s).length=l.length)
  (h:∀(i:Nat) (v:CV) (v':Value),(row s)[i]?=some v->l[i]?=some v'->VR ρ v v'):VR ρ (.tuple s) (.tuple l.toArray)
 |ib (n:Nat) (m:Int) (h:(n:Int)<=m):VR ρ (.ib n) (.int .i64 m)
 |any (v':Value):VR ρ .any v'
 |mQ (a:Addr):VR ρ .mQ (.slice (some a) 0 0)
structure eK (ρ:Ren)(l:List CV)(l':List Value):Prop where
 len:l.length=l'.length
 at':∀(i:Nat) (v:CV) (v':Value),l[i]?=some v->l'[i]?=some v'->VR ρ v v'
def Ren.le (ρ ρ':Ren):Prop:=∀b r,ρ b=some r->ρ' b=some r
def VR.mono {ρ ρ':Ren}(hle:ρ.le ρ')(h:VR ρ v v'):VR ρ' v v':=by
 induction h with
 |undef=>exact .undef
 |bool b=>exact .bool b
 |int k n=>exact .int k n
 |str l=>exact .str l
 |bA=>exact .bA
 |ptr b off r sz h=>exact .ptr b off r sz (hle _ _ h)
 |ae=>exact .ae
 |slice b off len cap r sz h=>exact .slice b off len cap r sz (hle _ _ h)
 |nU b off dE len cap fy grow r sz h hg hl hc ho hs=>exact .nU b off dE len cap fy grow r sz (hle _ _ h) hg hl hc ho hs
 |fY=>exact .fY
 |map b r sz h=>exact .map b r sz (hle _ _ h)
 |func fn f c f' c' hf hc h1 h2 ih1 ih2=>exact .func fn f c f' c' hf hc ih1 ih2
 |mq=>exact .mq
 |iface t v v' _ ih=>exact .iface t v v' ih
 |gz=>exact .gz
 |agg s l hl _ ih=>exact .agg s l hl ih
 |tuple s l hl _ ih=>exact .tuple s l hl ih
 |ib n m h=>exact .ib n m h
 |any v'=>exact .any v'
 |mQ a=>exact .mQ a
def eK.mono {ρ ρ':Ren}(hle:ρ.le ρ')(h:eK ρ l l'):eK ρ' l l':=
 ⟨h.len,λi v v' a b=>(h.at' i v v' a b).mono hle⟩
def eK.nil (ρ:Ren):eK ρ [] []:=⟨rfl,λi v v' h=>Pa⟩
def eK.cons {ρ:Ren}(h:VR ρ v v')(t:eK ρ l l'):eK ρ (v::l) (v'::l'):=
 ⟨by simp[t.len],λi x x' a b=>by
  cases i with
  |zero=>simp at a b;subst a;subst b;exact h
  |succ i=>exact t.at' i x x' acH adZ⟩
def eK.inv {ρ:Ren}(h:eK ρ (v::l) l'):∃v' t',l'=v'::t'/\VR ρ v v'/\eK ρ l t':=by
 cases l' with
 |nil=>have:=h.len;simp at this
 |cons v' t'=>
  exact⟨v',t',rfl,h.at' 0 v v' rfl rfl,⟨by have:=h.len;simpa using this,λi x x' a b=>h.at' (i+1) x x' acH adZ⟩⟩
def eK.app {ρ:Ren}{m:List CV}{m':List Value}(h:eK ρ l l')(t:eK ρ m m'):eK ρ (l++m) (l'++m'):=by
 induction l generalizing l' with
 |nil=>have:l'=[]:=by have:=h.len;simpa using this.symm
       subst this;exact t
 |cons v l ih=>obtain⟨v',t',rfl,h1,h2⟩:=h.inv;exact eK.cons h1 (ih h2)
def eK.take {ρ:Ren}(h:eK ρ l l')(n:Nat):eK ρ (l.take n) (l'.take n):=
 ⟨by simp[h.len],λi v v' a b=>by
  rw[aGE]at a b
  split at a
  .rename_i hi;rw[aEW hi]at b;exact h.at' i v v' a b
  .cases a⟩
def eK.drop {ρ:Ren}(h:eK ρ l l')(n:Nat):eK ρ (l.drop n) (l'.drop n):=
 ⟨by simp[h.len],λi v v' a b=>by rw[aHp]at a b;exact h.at' _ v v' a b⟩
def eK.bytes (ρ:Ren)(l:List UInt8):eK ρ (l.map bQ) (l.map λb:UInt8=>Value.int .u8 (b.toNat:Int)):=by
 induction l with
 |nil=>exact eK.nil ρ
 |cons a l ih=>exact eK.cons (.int _ _) ih
inductive BR (ρ:Ren):qB->Obj->Nat->Prop where
 |cells (s:List CV) (t:TypeId) (g:Bool) (c:Array Value) (lo hi:Nat) (hlen:s.length<=c.size)
  (hc:eK ρ (row s) (c.toList.take s.length)) (hf:∀k,k<c.size->¬(lo<=k/\k<hi)) (hg:g=false->∀k,¬(lo<=k/\k<hi)):BR ρ (.cells s t g) (.cells c t (lo,hi)) c.size
 |map (es:List (CV×CV×Nat)) (clock:Nat) (es':List MapEntry) (hl:es.length=es'.length)
  (h:∀(i:Nat) (e:CV×CV×Nat) (e':MapEntry),es[i]?=some e->es'[i]?=some e'->VR ρ e.1 e'.key/\VR ρ e.2.1 e'.val/\e.2.2=e'.born) (sz:Nat):
  BR ρ (.map es clock) (.map es'.toArray clock) sz
 |lmap (es l:List (CV×CV×Nat)) (clock:Nat) (es':List MapEntry) (hp:l.Perm es) (hi:∀e∈es,∃n:Int,e.1=.int .i64 n) (hn:(es.map (·.1)).Nodup) (hs:Go.MapKept.Stamped es'.toArray clock) (hl:l.length=es'.length)
  (h:∀(i:Nat) (e:CV×CV×Nat) (e':MapEntry),l[i]?=some e->es'[i]?=some e'->VR ρ e.1 e'.key/\VR ρ e.2.1 e'.val) (sz:Nat):BR ρ (.lmap es) (.map es'.toArray clock) sz
 |ro (s:List CV) (c:Array Value) (t:TypeId) (lo hi:Nat) (hlen:s.length<=c.size) (hc:eK ρ (row s) (c.toList.take s.length)):BR ρ (.ro s (.cells c t (lo,hi))) (.cells c t (lo,hi)) c.size
def BR.mono {ρ ρ':Ren}(hle:ρ.le ρ'){b:qB}{n:Nat}(h:BR ρ b o n):BR ρ' b o n:=by
 cases h with
 |cells s t g c lo hi hlen hc hf hg=>exact .cells s t g c lo hi hlen (hc.mono hle) hf hg
 |map es clock es' hl h=>
  exact .map es clock es' hl (λi e e' a b=>let ⟨x,y,z⟩:=h i e e' a b;⟨x.mono hle,y.mono hle,z⟩) _
 |lmap es l clock es' hp hi hn hs hl h=>exact .lmap es l clock es' hp hi hn hs hl (λi e e' a b=>let ⟨x,y⟩:=h i e e' a b;⟨x.mono hle,y.mono hle⟩) _
 |ro s c t lo hi hlen hc=>exact .ro s c t lo hi hlen (hc.mono hle)
structure WR (ρ:Ren)(st:St)(w:World):Prop where
 at':∀b blk r sz,st.m.g b=some blk->ρ b=some (r,sz)->∃o,w.heap[r]?=some o/\BR ρ blk o sz
 inj:∀b b' blk fq r sz Pq,st.m.g b=some blk->st.m.g b'=some fq->ρ b=some (r,sz)->ρ b'=some (r,Pq)->b=b'
 fresh:∀b x,ρ b=some x->b<st.nx
structure br (ρ:Ren)(st:St)(w:World)(ρ':Ren)(st':St)(w':World):Prop where
 wr:WR ρ' st' w'
 ext:ρ.le ρ'
 L0:∀b,b<st.nx->ρ b=none->ρ' b=none
 nx:st.nx<=st'.nx
 origin:∀b blk r sz,st'.m.g b=some blk->ρ' b=some (r,sz)->(∃b0 blk0 DC,st.m.g b0=some blk0/\ρ b0=some (r,DC))\/w.heap.size<=r
 kept:∀r:Nat,r<w.heap.size->(∀b blk sz,st.m.g b=some blk->ρ b≠some (r,sz))->w'.heap[r]?=w.heap[r]?
 size:w.heap.size<=w'.heap.size
 os:w'.os=w.os
 output:w'.output=w.output
def br.refl {ρ:Ren}{st:St}{w:World}(h:WR ρ st w):br ρ st w ρ st w:=
 ⟨h,λ_ _ h=>h,λ_ _ h=>h,aEQ _,λb blk _ sz h1 h2=>.inl ⟨b,blk,sz,h1,h2⟩,λ_ _ _=>rfl,aEQ _,rfl,rfl⟩
def br.trans {ρ ρ1 ρ2:Ren}{st gD vf:St}{w w1 w2:World}(a:br ρ st w ρ1 gD w1)(b:br ρ1 gD w1 ρ2 vf w2):
 br ρ st w ρ2 vf w2 where
 wr:=b.wr
 ext:=λ_ _ h=>b.ext _ _ (a.ext _ _ h)
 L0:=λq hq h=>b.L0 q (aFg hq a.nx) (a.L0 q hq h)
 nx:=aGb a.nx b.nx
 origin:=λx blk r sz h1 h2=>by
  rcases b.origin x blk r sz h1 h2 with⟨b0,blk0,DC,h3,h4⟩|h3
  .exact a.origin b0 blk0 r DC h3 h4
  .exact .inr (aGb a.size h3)
 kept:=λr hr hn=>by
  rw[b.kept r (aFg hr a.size),a.kept r hr hn];intro x blk sz h1 h2;rcases a.origin x blk r sz h1 h2 with⟨b0,blk0,DC,h3,h4⟩|h3
  .exact hn b0 blk0 DC h3 h4
  .omega
 size:=aGb a.size b.size
 os:=b.os.trans a.os
 output:=b.output.trans a.output
def WR.EK {ρ:Ren}{st:St}{w:World}(h:WR ρ st w)(e:w'.heap=w.heap):WR ρ st w':=
 ⟨λb blk r sz hb hr=>by rw[e];exact h.at' b blk r sz hb hr,h.inj,h.fresh⟩
def br.draw {ρ:Ren}{st:St}{w:World}(h:WR ρ st w)(d:Nat):br ρ st w ρ st {w with drawn:=d}:=
 ⟨h.EK rfl,λ_ _ h=>h,λ_ _ h=>h,aEQ _,λb blk _ sz h1 h2=>.inl ⟨b,blk,sz,h1,h2⟩,λ_ _ _=>rfl,aEQ _,rfl,rfl⟩
def Ren.set (ρ:Ren)(b:Nat)(x:Nat×Nat):Ren:=λq=>if b=q then some x else ρ q
def Ren.eN (ρ:Ren)(b:Nat)(x:Nat×Nat):ρ.set b x b=some x:=by simp[Ren.set]
def Ren.dA (ρ:Ren)(b q:Nat)(x:Nat×Nat)(h:q≠b):ρ.set b x q=ρ q:=by
 unfold Ren.set;rw[aET];intro e;exact h (e.symm)
def St.new (st:St)(blk:qB):St:=⟨st.m.put st.nx (some blk),(st.nx+1)⟩
def br.new {ρ:Ren}{st:St}{w:World}(h:WR ρ st w){blk:qB}(hb:BR (ρ.set st.nx (w.heap.size,sz)) blk o sz):
 br ρ st w (ρ.set st.nx (w.heap.size,sz)) (st.new blk) {w with heap:=w.heap.push o}/\ρ.set st.nx (w.heap.size,sz) st.nx=some (w.heap.size,sz):=by
 have ij:∀b x,ρ b=some x->b≠st.nx:=λb x hx e=>by have:=h.fresh b x hx;rw[e]at this;omega
 have hle:ρ.le (ρ.set st.nx (w.heap.size,sz)):=λb _ hr=>aaD
 have hlt:∀b blk r s,st.m.g b=some blk->ρ b=some (r,s)->r<w.heap.size:=λb blk r s h1 h2=>by
  obtain⟨o',e2,_⟩:=h.at' b blk r s h1 h2;exact(aFB.1 e2).1
 have iL:∀b fq,b≠st.nx->(st.new blk).m.g b=some fq->st.m.g b=some fq:=λb fq hb h1=>by
  simpa[St.new,PT.dv _ _ _ _ hb]using h1
 have hor:∀b fq r s,(st.new blk).m.g b=some fq->ρ.set st.nx (w.heap.size,sz) b=some (r,s)->(∃b0 blk0 DC,st.m.g b0=some blk0/\ρ b0=some (r,DC))\/w.heap.size<=r:=λb fq r s h1 h2=>by
  by_cases e:b=st.nx
  .subst e;rw[Ren.eN]at h2;cases h2;exact .inr (aEQ _)
  .rw[Ren.dA _ _ _ _ e]at h2;exact .inl ⟨b,fq,s,iL b fq e h1,h2⟩
 have BW:∀r:Nat,r<w.heap.size->(∀b blk sz,st.m.g b=some blk->ρ b≠some (r,sz))->(w.heap.push o)[r]?=w.heap[r]?:=λr hr _=>by
  rw[aHm,aET qE]
 refine⟨⟨⟨λb fq r s h1 h2=>?_,λb b' mW ml r s s' h1 h2 h3 h4=>?_,λb x hx=>?_⟩,hle,λq hq hn=>abF,?_,hor,BW,uG,rfl,rfl⟩,Ren.eN _ _ _⟩
 .by_cases e:b=st.nx
  .subst e;simp only[St.new,PT.dn,aGp]at h1;subst h1;rw[Ren.eN]at h2;cases h2;exact⟨o,uG,hb⟩
  .rw[Ren.dA _ _ _ _ e]at h2;obtain⟨o',e2,e3⟩:=h.at' b fq r s (iL b fq e h1) h2;refine⟨o',?_,e3.mono hle⟩;have:=(aFB.1 e2).1;rw[aHm,aET qE];exact e2
 .by_cases e:b=st.nx
  .by_cases e':b'=st.nx
   .rw[e,e']
   .rw[e,Ren.eN]at h3;cases h3;rw[Ren.dA _ _ _ _ e']at h4;have:=hlt b' ml _ _ (iL b' ml e' h2) h4;omega
  .by_cases e':b'=st.nx
   .rw[e',Ren.eN]at h4;cases h4;rw[Ren.dA _ _ _ _ e]at h3;have:=hlt b mW _ _ (iL b mW e h1) h3;omega
   .rw[Ren.dA _ _ _ _ e]at h3;rw[Ren.dA _ _ _ _ e']at h4;exact h.inj b b' mW ml r s s' (iL b mW e h1) (iL b' ml e' h2) h3 h4
 .show b<(st.nx+1)
  by_cases e:b=st.nx
  .subst e;omega
  .rw[Ren.dA _ _ _ _ e]at hx;have:=h.fresh b x hx;omega
 .show st.nx<=(st.nx+1);omega
def St.set (st:St)(b:Nat)(blk:qB):St:=⟨st.m.put b (some blk),st.nx⟩
def br.set {ρ:Ren}{st:St}{w:World}(h:WR ρ st w){b:Nat}{blk0 blk:qB}(h0:st.m.g b=some blk0)(hr:ρ b=some (r,sz))
 (ho:w'.heap[r]?=some o) (hb:BR ρ blk o sz) (hk:∀k,k≠r->w'.heap[k]?=w.heap[k]?) (hs:w'.heap.size=w.heap.size) (hos:w'.os=w.os) (QZ:w'.output=w.output):
 br ρ st w ρ (st.set b blk) w' where
 wr:={
  at':=λq fq r' s' h1 e1=>by
   by_cases e:q=b
   .subst e;simp only[St.set,PT.dn,aGp]at h1;subst h1;rw[hr]at e1;cases e1;exact⟨o,ho,hb⟩
   .simp only[St.set,PT.dv _ _ _ _ e]at h1;obtain⟨o',e2,e3⟩:=h.at' q fq r' s' h1 e1;refine⟨o',?_,e3⟩;rw[hk r' (λe'=>e (h.inj q b fq blk0 r s' sz h1 h0 (by rw[e1,e']) hr))];exact e2
  inj:=λq q' mW ml r1 s1 s2 h1 h2 h3 h4=>by
   have g:∀q fq,(st.set b blk).m.g q=some fq->∃x,st.m.g q=some x:=λq fq hq=>by
    by_cases e:q=b
    .subst e;exact⟨_,h0⟩
    .simp only[St.set,PT.dv _ _ _ _ e]at hq;exact⟨_,hq⟩
   obtain⟨x1,g1⟩:=g q mW h1;obtain⟨x2,g2⟩:=g q' ml h2;exact h.inj q q' x1 x2 r1 s1 s2 g1 g2 h3 h4
  fresh:=h.fresh}
 ext:=λ_ _ h=>h
 L0:=λ_ _ h=>h
 nx:=aEQ _
 origin:=λq fq r1 s1 h1 h2=>by
  by_cases e:q=b
  .subst e;exact .inl ⟨q,blk0,s1,h0,h2⟩
  .simp only[St.set,PT.dv _ _ _ _ e]at h1;exact .inl ⟨q,fq,s1,h1,h2⟩
 kept:=λk _ hn=>hk k (λe=>hn b blk0 sz h0 (by rw[hr,e]))
 size:=qE
 os:=hos
 output:=QZ
def St.move (st:St)(b:Nat)(blk:qB):St:=⟨(st.m.put b none).put st.nx (some blk),(st.nx+1)⟩
def br.move {ρ:Ren}{st:St}{w:World}(h:WR ρ st w){b:Nat}{blk0 blk:qB}(h0:st.m.g b=some blk0)(hr:ρ b=some (r,sz))
 (ho:w'.heap[r]?=some o) (hb:BR (ρ.set st.nx (r,sz)) blk o sz) (hk:∀k,k≠r->w'.heap[k]?=w.heap[k]?) (hs:w'.heap.size=w.heap.size) (hos:w'.os=w.os) (QZ:w'.output=w.output):
 br ρ st w (ρ.set st.nx (r,sz)) (st.move b blk) w':=by
 have ij:∀q x,ρ q=some x->q≠st.nx:=λq x hx e=>by have:=h.fresh q x hx;rw[e]at this;omega
 have hle:ρ.le (ρ.set st.nx (r,sz)):=λq x hx=>by rw[Ren.dA _ _ _ _ (ij q x hx)];exact hx
 have Hm:=ij b _ hr
 have iL:∀q fq,q≠st.nx->(st.move b blk).m.g q=some fq->q≠b/\st.m.g q=some fq:=λq fq hq h1=>by
  simp only[St.move,PT.dv _ _ _ _ hq]at h1
  by_cases e:q=b
  .subst e;rw[PT.dn]at h1;cases h1
  .rw[PT.dv _ _ _ _ e]at h1;exact⟨e,h1⟩
 have hor:∀q fq r1 s,(st.move b blk).m.g q=some fq->ρ.set st.nx (r,sz) q=some (r1,s)->(∃b0 blk0 DC,st.m.g b0=some blk0/\ρ b0=some (r1,DC))\/w.heap.size<=r1:=λq fq r1 s h1 h2=>by
  by_cases e:q=st.nx
  .subst e;rw[Ren.eN]at h2;cases h2;exact .inl ⟨b,blk0,sz,h0,hr⟩
  .rw[Ren.dA _ _ _ _ e]at h2;obtain⟨_,h1⟩:=iL q fq e h1;exact .inl ⟨q,fq,s,h1,h2⟩
 have BW:∀k:Nat,k<w.heap.size->(∀b blk sz,st.m.g b=some blk->ρ b≠some (k,sz))->w'.heap[k]?=w.heap[k]?:=λk _ hn=>hk k (λe=>hn b blk0 sz h0 (by rw[hr,e]));refine⟨⟨λq fq r' s' h1 e1=>?_,λq q' mW ml r1 s s' h1 h2 h3 h4=>?_,λq x hx=>?_⟩,hle,λq hq hn=>abF,?_,hor,BW,qE,hos,QZ⟩
 .by_cases e:q=st.nx
  .subst e;simp only[St.move,PT.dn,aGp]at h1;subst h1;rw[Ren.eN]at e1;cases e1;exact⟨o,ho,hb⟩
  .obtain⟨eb,h1⟩:=iL q fq e h1;rw[Ren.dA _ _ _ _ e]at e1;obtain⟨o',e2,e3⟩:=h.at' q fq r' s' h1 e1;refine⟨o',?_,e3.mono hle⟩;rw[hk r' (λe'=>eb (h.inj q b fq blk0 r s' sz h1 h0 (by rw[e1,e']) hr))];exact e2
 .by_cases e:q=st.nx
  .by_cases e':q'=st.nx
   .rw[e,e']
   .rw[e,Ren.eN]at h3;cases h3;rw[Ren.dA _ _ _ _ e']at h4;obtain⟨eb,h2⟩:=iL q' ml e' h2;exact absurd (h.inj q' b ml blk0 r s' sz h2 h0 h4 hr) eb
  .by_cases e':q'=st.nx
   .rw[e',Ren.eN]at h4;cases h4;rw[Ren.dA _ _ _ _ e]at h3;obtain⟨eb,h1⟩:=iL q mW e h1;exact absurd (h.inj q b mW blk0 r s sz h1 h0 h3 hr) eb
   .rw[Ren.dA _ _ _ _ e]at h3;rw[Ren.dA _ _ _ _ e']at h4;exact h.inj q q' mW ml r1 s s' (iL q mW e h1).2 (iL q' ml e' h2).2 h3 h4
 .show q<(st.nx+1)
  by_cases e:q=st.nx
  .subst e;omega
  .rw[Ren.dA _ _ _ _ e]at hx;have:=h.fresh q x hx;omega
 .show st.nx<=(st.nx+1);omega
end
section
variable {v:CV}{ρ:Ren}{st:St}{s:List CV}{t:TypeId}{g:Bool}{r sz:Nat}{v':Value}{l:List Value}
def GP (j k:IntKind):decide (j=k)=true↔j=k:=uG
abbrev zeq (x y:Int):Bool:=decide (x=y)
def zb (x y:Int):zeq x y=true↔x=y:=uG
def j8 (op:BinOp)(k:IntKind)(x y:Int):Option Int:=
 match op with
 | .and=>some (k.wrap (BitVec.ofInt k.bits x&&&BitVec.ofInt k.bits y).toNat)
 | .or=>some (k.wrap (BitVec.ofInt k.bits x|||BitVec.ofInt k.bits y).toNat)
 | .xor=>some (k.wrap (BitVec.ofInt k.bits x^^^BitVec.ofInt k.bits y).toNat)
 | .andNot=>some (k.wrap (BitVec.ofInt k.bits x&&& ~~~BitVec.ofInt k.bits y).toNat)
 |_=>none
def yh (P:Program)(w:World)(op:BinOp)(k:IntKind)(x y r:Int)(h:j8 op k x y=some r):
 (Op.intBits op k x y).run P w=.ok (.int k r) w:=by
 cases op<;>simp only[j8,aGp,reduceCtorEq]at h<;>subst h<;>rfl
def CV.isAny (v:CV):Bool:=match v with| .any=>true|_=>false
def CV.cN (v:CV):List CV:=
 match v with
 | .agg s=>s
 |v=>[v]
def F6 (h:∀s,v≠ .agg s):v.cN=[v]:=by
 cases v<;>first|rfl|exact absurd rfl (h _)
def kF (g o i:Nat):(⟨g,o,none⟩:Addr).add i=⟨g,o+i,none⟩:=by unfold Addr.add;split<;>simp_all
def eh (P:Program)(w:World)(r o n:Nat)(c:Array Value)(t:TypeId)(fz:Nat×Nat)(h:w.heap[r]?=some (.cells c t fz))(hn:o+n<=c.size):
 (loadCells ⟨r,o,none⟩ n).run P w=.ok ((c.toList.drop o).take n).toArray w:=by
 have hl:((c.toList.drop o).take n).length=n:=vR
 have:=run_loadCells_list (P:=P) w ⟨r,o,none⟩ ((c.toList.drop o).take n) (λj v hj=>by
  rw[kF];rw[aGE]at hj
  split at hj
  .rw[aHp]at hj;simp only[World.cell?,h]
   simpa using hj
  .cases hj)
 rw[hl]at this;exact this
def nu (P:Program)(w:World)(r o:Nat)(c:Array Value)(t:TypeId)(fz:Nat×Nat)(v:Value)(h:w.heap[r]?=some (.cells c t fz))(hv:c.toList[o]?=some v):
 (load ⟨r,o,none⟩).run P w=.ok v w:=by
 have:w.cell? ⟨r,o,none⟩=some v:=by simp only[World.cell?,h];simpa using hv
 rw[run_load,this]
def gI (P:Program)(g o:Nat)(t:TypeId)(lo hi:Nat):∀(vs:List Value) (i:Nat) (cur:Array Value) (w:World),w.heap[g]?=some (.cells cur t (lo,hi))->
 (∀k,k<cur.size->¬(lo<=k/\k<hi))->o+i+vs.length<=cur.size->(∀v∈vs,v.oneCell'=true)->
 (storeCells ⟨g,o,none⟩ vs i).run P w=.ok () (w.setRow g (cur.toList.take (o+i)++vs++cur.toList.drop (o+i+vs.length)).toArray)
 |[],i,cur,w,hg,_,_,_=>by
  simp only[storeCells,aFN,aGu,aFC,aFD,aGs];rw[setRow_self w g cur t (lo,hi) hg]
  rfl
 |v::rest,i,cur,w,hg,hfz,hl,h1=>by
  have fk:o+i<cur.size:=by simp at hl;omega
  have sU:w.cell? ⟨g,o+i,none⟩=some cur[o+i]:=by simp[World.cell?,hg,fk]
  have apq:w.frozen? ⟨g,o+i,none⟩=false:=by
   have:=hfz (o+i) fk;simp only[World.frozen?,hg,Bool.and_eq_false_iff,decide_eq_false_iff_not];omega
  have hst:(store ((⟨g,o,none⟩:Addr).add i) v).run P w=.ok () (w.setRow g (cur.setIfInBounds (o+i) v)):=by
   rw[kF,run_store P w _ v _ (h1 v uG),sU];simp[apq,setCell_eq_setRow w g (o+i) cur t (lo,hi) v hg]
  have ih:=gI P g o t lo hi rest (i+1) (cur.setIfInBounds (o+i) v) (w.setRow g (cur.setIfInBounds (o+i) v)) (setRow_heap w g cur _ t _ hg)
   (by simpa using hfz) (by simp at hl⊢;omega) (λx hx=>h1 x Yi)
  simp only[storeCells,Sem.run_bind,hst,Result.andThen_ok,ih,setRow_setRow]
  congr 3
  have e:=list_seg_step cur.toList (o+i) v rest (by simp at hl⊢;omega)
  simpa[Array.toList_setIfInBounds,Nat.add_assoc]using e
def nt (w:World)(g:Nat)(c:Array Value)(k:Nat)(h:k≠g):(w.setRow g c).heap[k]?=w.heap[k]?:=by
 unfold World.setRow;simp only[Array.getElem?_modify];rw[aET (λe=>h e.symm)]
def oW (w:World)(g:Nat)(c:Array Value):(w.setRow g c).heap.size=w.heap.size:=by
 unfold World.setRow;simp
def WR.row {w:World}(h:WR ρ st w){b:Nat}(h1:st.m.g b=some (.cells s t g))(h2:ρ b=some (r,sz)):
 ∃c lo hi,w.heap[r]?=some (.cells c t (lo,hi))/\c.size=sz/\s.length<=sz/\eK ρ s (c.toList.take s.length)/\(∀k,k<c.size->¬(lo<=k/\k<hi)):=by
 obtain⟨o,e2,e3⟩:=h.at' b _ r sz h1 h2;cases e3 with
 |cells _ _ _ c lo hi hlen hc hf hg=>exact⟨c,lo,hi,e2,rfl,hlen,hc,hf⟩
def WR.PM {w:World}(h:WR ρ st w){b:Nat}{o0:Obj}(h1:st.m.g b=some (.ro s o0))(h2:ρ b=some (r,sz)):
 ∃c t lo hi,w.heap[r]?=some (.cells c t (lo,hi))/\c.size=sz/\s.length<=sz/\eK ρ s (c.toList.take s.length):=by
 obtain⟨o,e2,e3⟩:=h.at' b _ r sz h1 h2;cases e3 with
 |ro _ c t lo hi hlen hc=>exact⟨c,t,lo,hi,e2,rfl,hlen,hc⟩
def WR.YD {w:World}(h:WR ρ st w){b:Nat}(h1:st.m.g b=some (.cells s t g))(h2:ρ b=some (r,sz)){c:Array Value}{lo hi:Nat}(h3:w.heap[r]?=some (.cells c t (lo,hi))):g=false->∀k,¬(lo<=k/\k<hi):=by
 obtain⟨o,e2,e3⟩:=h.at' b _ r sz h1 h2;rw[h3]at e2;cases e2;cases e3 with
 |cells _ _ _ c lo hi hlen hc hf hg=>exact hg
def VR.cN (h:VR ρ v v')(hn:v.isAny=false):eK ρ (v.cN) v'.cells.toList:=by
 by_cases ha:∃s,v=.agg s
 .obtain⟨s,rfl⟩:=ha;cases h with
  |agg s l hl h=>exact⟨by simpa[CV.cN,Value.cells]using hl,λi v v' a b=>h i v v' a (by simpa[Value.cells]using b)⟩
 .rw[F6 (λs e=>ha ⟨s,e⟩)];have:v'.cells= #[v']:=by cases h<;>first|rfl|(cases hn;done)|exact absurd ⟨_,rfl⟩ ha
  rw[this];exact eK.cons h (eK.nil ρ)
def VR.E6 (h:eK ρ s l):VR ρ (.agg s) (.agg l.toArray):=.agg s l h.len h.at'
def VR.tuple' (h:eK ρ s l):VR ρ (.tuple s) (.tuple l.toArray):=.tuple s l h.len h.at'
def eK.get {l:List CV}{l':List Value}(h:eK ρ l l'){i:Nat}(hv:l[i]?=some v):∃v',l'[i]?=some v'/\VR ρ v v':=by
 have hi:i<l.length:=by
  rcases aGh i l.length with h|h
  .exact h
  .simp[aFQ h]at hv
 have:=h.len▸hi;exact⟨l'[i],uG,h.at' i v _ hv uG⟩
def cE (v:CV):Bool:=match v with| .agg _| .tuple _| .undef| .any=>false|_=>true
def bj (s:List CV):Bool:=s.all cE
def nw (h:VR ρ v v')(ho:cE v=true):v'.oneCell'=true:=by
 cases h<;>first|rfl|(simp[cE]at ho)
def CD {x:CV}(h:bj x.cN=true):x.isAny=false:=by
 cases x<;>first|rfl|(simp[bj,CV.cN,cE]at h)
def nv (s:List CV)(h:bj s=true):∀v∈s,cE v=true:=by simpa[bj]using h
def br.write {P:Program}{w:World}(h:WR ρ st w){b:Nat}{t s':List CV}{ty:TypeId}{off:Nat}{vs:List Value}
 (h1:st.m.g b=some (.cells s ty g)) (h2:ρ b=some (r,sz)) (hw:dY s off t=some s') (hv:eK ρ t vs) (ho:bj t=true):
 ∃w',(storeCells ⟨r,off,none⟩ vs).run P w=.ok () w'/\br ρ st w ρ (st.set b (.cells s' ty g)) w':=by
 obtain⟨c,lo,hi,e1,e2,e3,e4,e5⟩:=h.row h1 h2;obtain⟨w1,w2⟩:=ym hw;have hlen:vs.length=t.length:=by rw[<-hv.len]
 have kz:∀v∈vs,v.oneCell'=true:=λv hm=>by
  obtain⟨i,fk,rfl⟩:=aFP hm;have:=hv.len▸fk;exact nw (hv.at' i t[i] _ uG uG) (nv t ho _ (aFj _))
 have jZ:=gI P r off ty lo hi vs 0 c w e1 e5 qE kz;refine⟨_,jZ,?_⟩
 have vG:s'.length=s.length:=by
  have:=congrArg List.length (w2);simp only[aEU,aFc,aFn]at this;omega
 have jg:=setRow_heap w r c (c.toList.take (off+0)++vs++c.toList.drop (off+0+vs.length)).toArray ty (lo,hi) e1
 have hcs:(c.toList.take (off+0)++vs++c.toList.drop (off+0+vs.length)).toArray.size=sz:=by
  simp only[aHh,aEU,aFc,aFn,aGI];omega
 refine br.set h h1 h2 jg ?_ (λk hk=>nt w r _ k hk) (oW w r _) rfl rfl;have hb:=BR.cells (ρ:=ρ) s' ty g (c.toList.take (off+0)++vs++c.toList.drop (off+0+vs.length)).toArray lo hi (by rw[hcs,vG];omega) ?_ ach (h.YD h1 h2 e1)
 .rw[hcs]at hb;exact hb
 .have:=w2;rw[vG,this]
  have e:(c.toList.take (off+0)++vs++c.toList.drop (off+0+vs.length)).toArray.toList.take s.length=(c.toList.take s.length).take off++(vs++(c.toList.take s.length).drop (off+t.length)):=by
   simp only[aFC,aFx,hlen];rw[aGH,aGH,aGf,aGf,Nat.min_comm off s.length,aEX (l:=vs) vR];rw[aGD,aFc,hlen,aGI (xs:=c),show s.length-min off c.size-t.length=s.length-(off+t.length) from qE]
  rw[e];exact(e4.take off).app (hv.app (e4.drop _))
end
section
variable {tmps:Array Value}{v':Value}{c x:CV}{s:Sem Value}{l:List Value}{t:TypeId}{i:Nat}{x':Value}{n:Nat}{p:CV}{p':Value}
abbrev Fr:=PT CV
inductive fc where
 |tmp (p:Nat)
 |const (v:CV)
def fK (fr:Fr)(p:Nat):CV:=Option.rec .undef (λv=>v) (fr.g p)
def ev (fr:Fr)(x:fc):CV:=fc.rec (λp=>fK fr p) (λv=>v) x
def FR (ρ:Ren)(fr:Fr)(tmps:Array Value):Prop:=∀t,VR ρ (fK fr (t)) (tmps.getD t Go.undef)
def FR.mono {ρ ρ':Ren}(hle:ρ.le ρ'){fr:Fr}(h:FR ρ fr tmps):FR ρ' fr tmps:=λt=>(h t).mono hle
def mw (fr:Fr)(p:Nat)(v:CV):fK (fr.put p (some v)) p=v:=by unfold fK;rw[PT.dn]
def mK (fr:Fr)(p q:Nat)(x:Option CV)(h:q≠p):fK (fr.put p x) q=fK fr q:=by unfold fK;rw[PT.dv _ _ _ _ h]
def FR.put {ρ:Ren}{fr:Fr}(h:FR ρ fr tmps){d:Nat}(hd:d<tmps.size){v:CV}(hv:VR ρ v v'):
 FR ρ (fr.put (d) (some v)) (tmps.setIfInBounds d v'):=by
 intro t
 by_cases e:t=d
 .subst e;rw[mw]
  simpa[hd]using hv
 .rw[mK _ _ _ _ (λe'=>e (e'))];have:(tmps.setIfInBounds d v').getD t Go.undef=tmps.getD t Go.undef:=by simp[aFV (aFL e)]
  rw[this];exact h t
def jJ (v:Value):Option CV:=
 match v with
 | .bool b=>some (.bool b)
 | .int k n=>some (.int k n)
 | .string s=>some (.str s.data.toList)
 | .pointer none=>some .bA
 | .slice none 0 0=>some .ae
 | .map none=>some .fY
 | .func fn f c=>bH (Bool.and f.isEmpty c.isEmpty) (some (.func fn .nil .nil)) none
 | .nilFunc=>some .mq
 | .nilIface=>some .gz
 | .tuple c=>bH c.isEmpty (some .undef) none
 |_=>none
def VR.jJ {v:Value}(h:jJ v=some c)(ρ:Ren):VR ρ c v:=by
 unfold Lim.jJ at h
 split at h<;>try (cases h;done)
 .cases h;exact .bool _
 .cases h;exact .int _ _
 .cases h;rename_i s;have:=VR.str (ρ:=ρ) s.data.toList;rw[pR]at this;exact this
 .cases h;exact .bA
 .cases h;exact .ae
 .cases h;exact .fY
 .rename_i fn f c;rw[aP]at h
  split at h
  .rename_i hc;cases h;simp only[aFl,Array.isEmpty_iff]at hc;rw[hc.1,hc.2];exact VR.func fn .nil .nil [] [] rfl rfl (λi v v' h=>Pa) (λi v v' h=>Pa)
  .cases h
 .cases h;exact .mq
 .cases h;exact .gz
 .rename_i c;rw[aP]at h
  split at h
  .rename_i hc;cases h;simp only[Array.isEmpty_iff]at hc;rw[hc];exact .undef
  .cases h
def qT (l:List Value):Option (List CV):=
 List.rec (some .nil) (λv _ r=>Option.rec none (λr=>Option.rec none (λc=>some (c.cN++r)) (jJ v)) r) l
def ofValue (v:Value):Option CV:=
 match v with
 | .agg cs=>Option.rec none (λs=>some (.agg s)) (qT cs.toList)
 |v=>jJ v
def Eg {v:Value}(h:jJ v=some c):∀s,c≠ .agg s:=by
 intro s e;subst e;unfold jJ at h
 split at h<;>first|(cases h;done)|(rw[aP]at h;split at h<;>cases h)
def wy:∀(l:List Value) (s:List CV),qT l=some s->∀ρ,eK ρ s l:=by
 intro l
 induction l with
 |nil=>intro s h ρ;cases h;exact eK.nil ρ
 |cons v l ih=>
  intro s h ρ;have e:qT (v::l)=Option.rec none (λr=>Option.rec none (λc=>some (c.cN++r)) (jJ v)) (qT l):=rfl;rw[e]at h;cases hl:qT l with
  |none=>rw[hl]at h;cases h
  |some r=>
   rw[hl]at h;cases hv:jJ v with
   |none=>rw[hv]at h;cases h
   |some c=>
    rw[hv]at h;cases h;rw[F6 (Eg hv)];exact eK.cons (VR.jJ hv ρ) (ih r hl ρ)
def VR.ofValue {v:Value}(h:ofValue v=some c)(ρ:Ren):VR ρ c v:=by
 unfold Lim.ofValue at h
 split at h
 .rename_i cs;cases hc:qT cs.toList with
  |none=>rw[hc]at h;cases h
  |some s=>
   rw[hc]at h;cases h;exact VR.E6 (wy _ s hc ρ)
 .exact VR.jJ h ρ
def fj (x:Operand):Option fc:=
 match x with
 | .tmp t=>some (.tmp (t))
 | .const v=>Option.rec none (λc=>some (.const c)) (ofValue v)
 | .func f=>some (.const (.func (.func f) .nil .nil))
 | .global _=>none
def bu {x:Operand}{c:fc}(h:fj x=some c){ρ:Ren}{fr:Fr}{a:Act}(hf:FR ρ fr a.tmps):VR ρ (ev fr c) (a.eval x):=by
 cases x with
 |tmp t=>cases h;exact hf t
 |const v=>
  have e:fj (.const v)=Option.rec none (λc=>some (.const c)) (ofValue v):=rfl;rw[e]at h;cases hv:ofValue v with
  |none=>rw[hv]at h;cases h
  |some c'=>rw[hv]at h;cases h;exact VR.ofValue hv ρ
 |func f=>cases h;exact VR.func _ .nil .nil [] [] rfl rfl (λi v v' h=>Pa) (λi v v' h=>Pa)
 |global g=>cases h
inductive OR where
 |ok (v:CV) (st:St)
 |bad
def bK (P:Program)(s:Sem Value)(ρ:Ren)(st:St)(w:World)(v:CV)(st':St):Prop:=
 ∃v' w' ρ',s.run P w=.ok v' w'/\VR ρ' v v'/\br ρ st w ρ' st' w'
def Dr (P:Program)(s:Sem Unit)(ρ:Ren)(st:St)(w:World)(v:CV)(st':St):Prop:=
 ∃w' ρ',s.run P w=.ok () w'/\v=.undef/\br ρ st w ρ' st' w'
def Kt (P:Program)(s:Sem Next)(ρ:Ren)(st:St)(w:World)(v:CV)(st':St):Prop:=
 ∃x v' w' ρ',s.run P w=.ok x w'/\(x=.value v'\/(x=.skip/\v'=Go.undef))/\VR ρ' v v'/\br ρ st w ρ' st' w'
section
variable {P:Program} {ρ:Ren} {st st':St} {w:World} {v:CV}
def bK.still (hw:WR ρ st w)(h:s.run P w=.ok v' w)(hv:VR ρ v v'):bK P s ρ st w v st:=⟨v',w,ρ,h,hv,br.refl hw⟩
def bK.iu (h:bK P s ρ st w v st'):Kt P (do pure (Next.value (<-s))) ρ st w v st':=by
 obtain⟨v',w',ρ',h1,h2,h3⟩:=h;exact⟨.value v',v',w',ρ',by simp[h1],.inl rfl,h2,h3⟩
def Dr.iu {s:Sem Unit}(h:Dr P s ρ st w v st'):Kt P (do s;pure Next.skip) ρ st w v st':=by
 obtain⟨w',ρ',h1,rfl,h3⟩:=h;exact⟨.skip,Go.undef,w',ρ',by simp[h1],.inr ⟨rfl,rfl⟩,.undef,h3⟩
def aX (c a b:CV)(st:St):OR:=match c with| .bool t=>bH t (.ok a st) (.ok b st)|_=>.bad
def Gr {a b:CV}{c' a' b':Value}(h:aX c a b st=.ok v st')(hw:WR ρ st w)(hc:VR ρ c c')(ha:VR ρ a a')(hb:VR ρ b b'):
 Kt P (do pure (Next.value (if<-asBool c' then a' else b'))) ρ st w v st':=by
 unfold aX at h
 split at h
 .rename_i t;cases hc;cases t with
  |true=>cases h;exact⟨_,a',w,ρ,by simp[asBool],.inl rfl,ha,br.refl hw⟩
  |false=>cases h;exact⟨_,b',w,ρ,by simp[asBool],.inl rfl,hb,br.refl hw⟩
 .cases h
def br.newRow {s:List CV}(hw:WR ρ st w)(hs:∀ρ',ρ.le ρ'->eK ρ' s l)(g:Bool):
 ∃ρ',(newRow t l.toArray).run P w=.ok ⟨w.heap.size,0,none⟩ {w with heap:=w.heap.push (.cells l.toArray t)}/\
  ρ' st.nx=some (w.heap.size,l.length)/\br ρ st w ρ' (st.new (.cells s t g)) {w with heap:=w.heap.push (.cells l.toArray t)}:=by
 have ij:∀b x,ρ b=some x->b≠st.nx:=λb x hx e=>aaC
 have hle:ρ.le (ρ.set st.nx (w.heap.size,l.length)):=λb _ hr=>aaD
 have hv:=hs _ hle;have hlen:s.length=l.length:=by rw[hv.len]
 have hb:=BR.cells (ρ:=ρ.set st.nx (w.heap.size,l.length)) s t g l.toArray 0 0 (by simp[hlen]) (by
  rw[hlen];simpa using hv) qE (by intros;omega)
 have ha:=br.new hw (blk:=.cells s t g) (o:=.cells l.toArray t) (sz:=l.length) acv;exact⟨_,rfl,ha.2,ha.1⟩
def du (t:TypeId)(s:List CV)(st:St):OR:=.ok (.ptr st.nx 0) ⟨st.m.put st.nx (some (.cells s t false)),st.nx+1⟩
def KQ (t:TypeId)(s:List CV)(st:St):du t s st=.ok (.ptr st.nx 0) (st.new (.cells s t false)):=by
 rfl
def Ef {z:List CV}{i:TypeInfo}{z':Value}(h:du t z st=.ok v st')(hw:WR ρ st w)(hi:P.info? t=some i)(hz:i.zero=some z')
 (hc:∀ρ,eK ρ z z'.cells.toList):bK P (Instr.alloc t true (.tuple #[])) ρ st w v st':=by
 rw[KQ]at h;cases h;obtain⟨ρ',h1,h2,h3⟩:=br.newRow (P:=P) (t:=t) hw (λρ' _=>hc ρ') false;rw[aGs]at h1 h3;refine⟨.pointer (some ⟨w.heap.size,0,none⟩),_,ρ',?_,.ptr _ _ _ _ h2,h3⟩;simp[Instr.alloc,zeroValue,typeInfo,hi,hz,newVar,h1]
def Jz (h:bH x.isAny .bad (du t x.cN st)=.ok v st')(hw:WR ρ st w)(hx:VR ρ x x'):
 bK P (Instr.box t x') ρ st w v st':=by
 rw[aP]at h
 split at h
 .cases h
 rename_i hna;rw[KQ]at h;cases h;obtain⟨ρ',h1,h2,h3⟩:=br.newRow (P:=P) (t:=t) hw (λρ' hle=>(hx.mono hle).cN (by simpa using hna)) false;rw[aGs]at h1 h3;refine⟨.pointer (some ⟨w.heap.size,0,none⟩),_,ρ',?_,.ptr _ _ _ _ h2,h3⟩;simp[Instr.box,newVar,h1]
def aC (p:CV)(st:St):OR:=
 match p with
 | .ptr b off=>(match st.m.g b with
   |some (.cells s _ _)=>Option.rec .bad (λv=>.ok v st) (s[off]?)
   |some (.ro s _)=>Option.rec .bad (λv=>.ok v st) (s[off]?)
   |_=>.bad)
 |_=>.bad
def aI (n:Nat)(p:CV)(st:St):OR:=
 match p with
 | .ptr b off=>(match st.m.g b with
   |some (.cells s _ _)=>Option.rec .bad (λv=>.ok (.agg v) st) (gV s off n)
   |some (.ro s _)=>Option.rec .bad (λv=>.ok (.agg v) st) (gV s off n)
   |_=>.bad)
 |_=>.bad
def tG {s:List CV}(h:eK ρ s l){off:Nat}(hx:s[off]?=some x):∃x',l[off]?=some x'/\VR ρ x x':=by
 exact h.get hx
def vX {x:Value}(h:(l.take n)[i]?=some x):l[i]?=some x:=by
 rw[aGE]at h;split at h
 .exact h
 .cases h
def D9 (h:aC p st=.ok v st')(hw:WR ρ st w)(hp:VR ρ p p')(ht:(isAgg t).run P w=.ok false w):
 bK P (Instr.loadAt t p') ρ st w v st':=by
 unfold aC at h
 split at h
 .rename_i b off
  split at h
  .rename_i s t' g hm;cases hx:s[off]? with
   |none=>rw[hx]at h;cases h
   |some x=>
    rw[hx]at h;cases h;cases hp with
    |ptr _ _ r sz hr=>
     obtain⟨c,lo,hi,e1,e2,e3,e4,e5⟩:=hw.row hm hr;obtain⟨x',g1,g2⟩:=tG e4 hx;refine bK.still hw ?_ g2;simp[Instr.loadAt,Instr.sureAddr,loadVar,ht,nu P w r off c t' (lo,hi) x' e1 (vX g1),-run_load]
  .rename_i s o0 hm;cases hx:s[off]? with
   |none=>rw[hx]at h;cases h
   |some x=>
    rw[hx]at h;cases h;cases hp with
    |ptr _ _ r sz hr=>
     obtain⟨c,t',lo,hi,e1,e2,e3,e4⟩:=hw.PM hm hr;obtain⟨x',g1,g2⟩:=tG e4 hx;refine bK.still hw ?_ g2;simp[Instr.loadAt,Instr.sureAddr,loadVar,ht,nu P w r off c t' (lo,hi) x' e1 (vX g1),-run_load]
  .cases h
 .cases h
def D8 (h:aI n p st=.ok v st')(hw:WR ρ st w)(hp:VR ρ p p')(ht:(isAgg t).run P w=.ok true w)
 (hn:(Go.sizeOf t).run P w=.ok n w):bK P (Instr.loadAt t p') ρ st w v st':=by
 unfold aI at h
 split at h
 .rename_i b off
  split at h
  .rename_i s t' g hm;cases hx:gV s off n with
   |none=>rw[hx]at h;cases h
   |some x=>
    rw[hx]at h;cases h;cases hp with
    |ptr _ _ r sz hr=>
     obtain⟨c,lo,hi,e1,e2,e3,e4,e5⟩:=hw.row hm hr;obtain⟨g1,g2⟩:=jY hx;refine bK.still hw (v':=.agg ((c.toList.drop off).take n).toArray) ?_ (VR.E6 ?_)
     .simp[Instr.loadAt,Instr.sureAddr,loadVar,ht,hn,eh P w r off n c t' (lo,hi) e1 qE]
     .rw[show x=(s.drop off).take n from g2]
      have e:(c.toList.drop off).take n=((c.toList.take s.length).drop off).take n:=by
       rw[aGD,aGf,aFG qE]
      rw[e];exact(e4.drop off).take n
  .rename_i s o0 hm;cases hx:gV s off n with
   |none=>rw[hx]at h;cases h
   |some x=>
    rw[hx]at h;cases h;cases hp with
    |ptr _ _ r sz hr=>
     obtain⟨c,t',lo,hi,e1,e2,e3,e4⟩:=hw.PM hm hr;obtain⟨g1,g2⟩:=jY hx;refine bK.still hw (v':=.agg ((c.toList.drop off).take n).toArray) ?_ (VR.E6 ?_)
     .simp[Instr.loadAt,Instr.sureAddr,loadVar,ht,hn,eh P w r off n c t' (lo,hi) e1 qE]
     .rw[show x=(s.drop off).take n from g2]
      have e:(c.toList.drop off).take n=((c.toList.take s.length).drop off).take n:=by
       rw[aGD,aGf,aFG qE]
      rw[e];exact(e4.drop off).take n
  .cases h
 .cases h
def aR (n:Nat)(p x:CV)(st:St):OR:=
 match p with
 | .ptr b off=>(match st.m.g b with
   |some (.cells s t g)=>(λxs=>bH (Bool.and (Nat.beq xs.length n) (bj xs)) (Option.rec .bad (λs'=>.ok .undef ⟨st.m.put b (some (.cells s' t g)),st.nx⟩) (dY s off xs)) .bad) x.cN
   |_=>.bad)
 |_=>.bad
def DY (h:aR n p x st=.ok v st')(hw:WR ρ st w)(hp:VR ρ p p')(hx:VR ρ x x')
 (hn:(Go.sizeOf t).run P w=.ok n w):Dr P (Instr.storeAt t p' x') ρ st w v st':=by
 unfold aR at h
 split at h
 .rename_i b off
  split at h
  .rename_i s t' g hm;simp only[aP,aFl,aFw]at h
   split at h
   .rename_i hc;cases hs:dY s off x.cN with
    |none=>rw[hs]at h;cases h
    |some s'=>
     rw[hs]at h;cases h;cases hp with
     |ptr _ _ r sz hr=>
      obtain⟨w',h1,h2⟩:=br.write (P:=P) hw hm hr hs (hx.cN (CD hc.2)) hc.2;refine⟨w',ρ,?_,rfl,h2⟩;have hl:x'.cells.size=n:=by have:=(hx.cN (CD hc.2)).len;rw[hc.1]at this;simpa using this.symm
      simp[Instr.storeAt,Instr.sureAddr,storeVar,hn,hl,h1]
   .cases h
  .cases h
 .cases h
def dP (x:CV)(st:St):OR:=match x with| .ptr .. | .iface .. | .func (.func _) _ _=>.ok x st|_=>.bad
def Jv (h:dP x st=.ok v st')(hw:WR ρ st w)(hx:VR ρ x x'){o:Oper}{y:Operand}{f:Operand->Value}(ho:o.op=.nilCheck y)(hy:f y=x'):
 Kt P (execOp f o) ρ st w v st':=by
 unfold dP at h
 have key:∀{z:Value},f y=z->(match z with| .pointer none| .nilIface| .nilFunc| .func (.method _) _ _=>False|_=>True)->(execOp f o).run P w=.ok (.value z) w:=by
  intro z hz hn;unfold execOp;rw[ho];simp only[hz]
  split<;>first|(exact hn.elim)|rfl
 split at h
 .cases h;cases hx with|ptr _ _ _ _ hr=>exact⟨_,_,w,ρ,key hy trivial,.inl rfl,.ptr _ _ _ _ hr,br.refl hw⟩
 .cases h;cases hx with|iface _ _ _ hr=>exact⟨_,_,w,ρ,key hy trivial,.inl rfl,.iface _ _ _ hr,br.refl hw⟩
 .cases h;have BN:=hx;cases hx with|func _ _ _ f' c' hf hc h1 h2=>exact⟨_,_,w,ρ,key hy trivial,.inl rfl,BN,br.refl hw⟩
 .cases h
def av (x:CV)(i:Nat)(st:St):OR:=match x with| .tuple s=>Option.rec .bad (λv=>.ok v st) (s[i]?)|_=>.bad
def Aj (h:av x i st=.ok v st')(hw:WR ρ st w)(hx:VR ρ x x'):bK P (Instr.extract x' i) ρ st w v st':=by
 unfold av at h
 split at h
 .rename_i s;cases hs:s[i]? with
  |none=>rw[hs]at h;cases h
  |some y=>
   rw[hs]at h;cases h;cases hx with
   |tuple _ l hl hh=>
    obtain⟨y',g1,g2⟩:=tG (ρ:=ρ) (s:=s) ⟨hl,hh⟩ hs;refine bK.still hw ?_ g2;simp[Instr.extract,g1]
 .cases h
end
end
section
variable {s:List CV}{l:List Value}{t:TypeId}{i:TypeInfo}{u:TypeDesc}{n:Nat}{s2:List CV}{l2:List Value}
mutual
inductive kj where
 |bool|int|str|ptr|iface|slice|map|func
 |bytes (len:Nat)
 |struct (fs:Ye)
 |array (len size:Nat) (agg:Bool) (e:kj)
inductive Ye where
 |nil
 |cons (off size:Nat) (agg:Bool) (d:kj) (r:Ye)
end
def T0 (v:CV):Option UInt8:=match v with| .int .u8 (.ofNat n)=>if n<256 then some (.ofNat n)else none|_=>none
def Io:List CV->Option (List UInt8)
 |[]=>some []
 |v::r=>match T0 v,Io r with|some b,some l=>some (b::l)|_,_=>none
def IU (b:UInt8):T0 (bQ b)=some b:=by
 have h:b.toNat<256:=b.toNat_lt;show(if b.toNat<256 then some (UInt8.ofNat b.toNat)else none)=some b;rw[aEW h];simp
def Dy (l:List UInt8):Io (l.map bQ)=some l:=by
 induction l with
 |nil=>rfl
 |cons b l ih=>simp[Io,IU,ih]
def Mu {v:CV}{b:UInt8}(h:T0 v=some b):v=bQ b:=by
 unfold T0 at h
 split at h
 .rename_i n
  split at h
  .rename_i hn;cases h;show CV.int .u8 (.ofNat n)=.int .u8 (.ofNat (UInt8.ofNat n).toNat);rw[UInt8.toNat_ofNat',aGz qE]
  .cases h
 .cases h
def vW:∀{s:List CV} {l:List UInt8},Io s=some l->s=l.map bQ:=by
 intro s
 induction s with
 |nil=>intro l h;cases h;rfl
 |cons v r ih=>
  intro l h;simp only[Io]at h
  split at h
  .rename_i b l' h1 h2;cases h;rw[aFv,Mu h1,<-ih h2]
  .cases h
def iB (agg:Bool)(off size:Nat)(s:List CV):Option CV:=
 bH agg (Option.rec none (λt=>some (.agg t)) (gV s off size)) (s[off]?)
def andThen (a:Option Bool)(b:Option Bool):Option Bool:=Option.rec none (λt=>bH t b (some false)) a
mutual
def lO:kj->CV->CV->Option Bool
 | .bool,x,y=>(match x,y with| .bool a,.bool b=>some (a==b)|_,_=>none)
 | .int,x,y=>(match x,y with| .int j a,.int k b=>bH (decide (j=k)) (some (decide (a=b))) none|_,_=>none)
 | .str,x,y=>(match x,y with| .str a,.str b=>some (a==b)|_,_=>none)
 | .ptr,x,y=>(match x,y with
   | .bA,.bA=>some true
   | .bA,.ptr _ _=>some false
   | .ptr _ _,.bA=>some false
   | .ptr b o,.ptr b' o'=>bH (decide (b=b')) (some (Nat.beq o o')) none
   |_,_=>none)
 | .iface,x,y=>(match x,y with
   | .gz,.gz=>some true
   | .gz,.iface _ _=>some false
   | .iface _ _,.gz=>some false
   |_,_=>none)
 | .slice,x,y=>(match x,y with
   | .ae,.ae=>some true
   | .ae,.slice .. =>some false
   | .slice ..,.ae=>some false
   |_,_=>none)
 | .map,x,y=>(match x,y with
   | .fY,.fY=>some true
   | .fY,.map _=>some false
   | .map _,.fY=>some false
   |_,_=>none)
 | .func,x,y=>(match x,y with
   | .mq,.mq=>some true
   | .mq,.func .. =>some false
   | .func ..,.mq=>some false
   |_,_=>none)
 | .bytes len,x,y=>(match x,y with
   | .agg s,.agg t=>(match Io s,Io t with|some a,some b=>bH (decide (a.length=len)&&decide (b.length=len)) (some (a==b)) none|_,_=>none)
   |_,_=>none)
 | .struct fs,x,y=>(match x,y with| .agg s,.agg t=>yX fs s t|_,_=>none)
 | .array len size agg e,x,y=>(match x,y with
   | .agg s,.agg t=>Nat.rec (motive:=λ_=>Nat->Option Bool) (λ_=>some true)
    (λ_ ih off=>Option.rec none (λa=>Option.rec none (λb=>andThen (lO e a b) (ih (Nat.add off size))) (iB agg off size t)) (iB agg off size s)) len 0
   |_,_=>none)
def yX:Ye->List CV->List CV->Option Bool
 | .nil,_,_=>some true
 | .cons off size agg d r,s,t=>Option.rec none (λa=>Option.rec none (λb=>andThen (lO d a b) (yX r s t)) (iB agg off size t)) (iB agg off size s)
end
def iF (u:TypeDesc):Bool:=match u with| .struct _| .array _ _=>true|_=>false
def py (P:Program)(desc:TypeId->Option kj)(fs:List Field):Option Ye:=
 match fs with
 |[]=>some .nil
 |f::r=>
  match decide (f.name= "_"),P.info? f.type,(P.underlying f.type),desc f.type,py P desc r with
  |false,some i,some u,some d,some r=>some (.cons f.offset i.size (iF u) d r)
  |_,_,_,_,_=>none
def fZ (P:Program):Nat->TypeId->Option kj
 |0,_=>none
 |n+1,t=>
  match P.underlying t with
  |some .bool=>some .bool
  |some (.int _)=>some .int
  |some .string=>some .str
  |some (.pointer e)=>(match P.info? e with|some i=>bH (Nat.beq i.size 0) none (some .ptr)|none=>none)
  |some (.interface _)=>some .iface
  |some (.slice _)=>some .slice
  |some (.map _ _)=>some .map
  |some (.func _ _ _)=>some .func
  |some (.struct fs)=>bH (P.stoodInHeld t) none (match py P (fZ P n) fs.toList with|some l=>some (.struct l)|none=>none)
  |some (.array len e)=>
   (match P.info? e,P.underlying e with
   |some i,some (.int .u8)=>bH (Nat.beq i.size 1) (some (.bytes len)) none
   |some i,some u=>(match fZ P n e with|some d=>some (.array len i.size (iF u) d)|none=>none)
   |_,_=>none)
  |_=>none
section
variable {P:Program} {ρ:Ren} {w:World}
def iQ {agg:Bool}{off size:Nat}{x:CV}(h:iB agg off size s=some x)(hs:eK ρ s l)
 (hi:P.info? t=some i) (hn:i.size=size) (hu:P.underlying t=some u) (ha:(iF u)=agg):
 ∃x',(part t l.toArray off).run P w=.ok x' w/\VR ρ x x':=by
 have h1:(isAgg t).run P w=.ok agg w:=by
  subst ha;cases u<;>simp[isAgg,aEZ hu,iF]
 unfold iB at h;rw[aP]at h
 split at h
 .rename_i hb;cases he:gV s off size with
  |none=>rw[he]at h;cases h
  |some y=>
   rw[he]at h;cases h;obtain⟨g1,g2⟩:=jY he;refine⟨.agg ((l.drop off).take size).toArray,?_,VR.E6 ?_⟩
   .simp[part,h1,hb,Go.sizeOf,typeInfo,hi,hn]
   .rw[show y=(s.drop off).take size from g2];exact(hs.drop off).take size
 .rename_i hb;obtain⟨x',g1,g2⟩:=tG hs h;have qz:agg=false:=by simpa using hb
  exact⟨x',by simp[part,h1,qz,g1],g2⟩
def VR.tY {l:List UInt8}{x':Value}(h:VR ρ (.agg (l.map bQ)) x'):x'=.agg (l.map Extern.Stop.cell).toArray:=by
 cases h with
 |agg s m hl hh=>
  congr 2
  apply aHi;intro i;simp only[aFK]at hl
  by_cases hi:i<l.length
  .have h2:=hh i _ m[i] (by rw[aFA,aES hi];rfl) uG;cases h2h:m[i]with
   |int k q=>
    rw[h2h]at h2;cases h2;rw[aFA,aES hi,aES qE,h2h];rfl
   |_=>rw[h2h]at h2;cases h2
  .rw[aFQ qE,aFQ vR]
def E8 (P:Program)(w:World)(ρ:Ren)(d:kj)(t:TypeId)(n:Nat):Prop:=
 ∀(x y:CV) (x' y':Value) (b:Bool),lO d x y=some b->VR ρ x x'->VR ρ y y'->(Op.equalIn n t x' y').run P w=.ok b w
def Km (len size:Nat)(agg:Bool)(e:kj)(hi:P.info? t=some i)(hn:i.size=size)(hu:P.underlying t=some u)
 (ha:(iF u)=agg) (hf:E8 P w ρ e t n)   (h1:eK ρ s l) (h2:eK ρ (row s2) l2):
 ∀(j:Nat) (b:Bool),Nat.rec (motive:=λ_=>Nat->Option Bool) (λ_=>some true)
  (λ_ ih off=>Option.rec none (λa=>Option.rec none (λb=>andThen (lO e a b) (ih (Nat.add off size))) (iB agg off size s2)) (iB agg off size s)) len (j*size)=some b->
  (Op.eqItems n t size l.toArray l2.toArray (List.range' j len)).run P w=.ok b w:=by
 induction len with
 |zero=>intro j b h;cases h;simp[Op.eqItems]
 |succ len ih=>
  intro j b h;rw[List.range'_succ];simp only at h;cases hx:iB agg (j*size) size s with
  |none=>rw[hx]at h;cases h
  |some x=>
   cases hy:iB agg (j*size) size s2 with
   |none=>rw[hx,hy]at h;cases h
   |some y=>
    rw[hx,hy]at h;simp only at h;cases hq:lO e x y with
    |none=>rw[hq]at h;cases h
    |some q=>
     rw[hq]at h;obtain⟨x',p1,v1⟩:=iQ (P:=P) (w:=w) hx h1 hi hn hu ha;obtain⟨y',p2,v2⟩:=iQ (P:=P) (w:=w) hy h2 hi hn hu ha;have hr:=hf x y x' y' q hq v1 v2;simp only[Op.eqItems,Sem.run_bind,p1,p2,hr,Result.andThen_ok];cases q with
     |false=>cases h;simp
     |true=>
      have:=ih (j+1) b (by rw[aFW,aGT];exact h)
      simpa using this
def Kl {desc:TypeId->Option kj}(hf:∀t d,desc t=some d->E8 P w ρ d t n)(h1:eK ρ s l)(h2:eK ρ (row s2) l2):
 ∀(fs:List Field) (r:Ye) (b:Bool),py P desc fs=some r->yX r s s2=some b->(Op.eqFields n l.toArray l2.toArray fs).run P w=.ok b w:=by
 intro fs
 induction fs with
 |nil=>intro r b h hb;cases h;simp only[yX,aGp]at hb;subst hb;simp[Op.eqFields]
 |cons f fs ih=>
  intro r b h hb;simp only[py]at h
  split at h
  .rename_i i u d r' ij hi hu hd hr;cases h;have aoq:f.name≠ "_" :=by simpa using ij
   simp only[yX]at hb;cases hx:iB (iF u) f.offset i.size s with
   |none=>rw[hx]at hb;cases hb
   |some x=>
    cases hy:iB (iF u) f.offset i.size s2 with
    |none=>rw[hx,hy]at hb;cases hb
    |some y=>
     rw[hx,hy]at hb;simp only at hb;cases hq:lO d x y with
     |none=>rw[hq]at hb;cases hb
     |some q=>
      rw[hq]at hb;obtain⟨x',p1,v1⟩:=iQ (P:=P) (w:=w) hx h1 hi rfl hu rfl;obtain⟨y',p2,v2⟩:=iQ (P:=P) (w:=w) hy h2 hi rfl hu rfl;have jZ:=hf f.type d hd x y x' y' q hq v1 v2;simp only[Op.eqFields,aoq,ne_eq,not_false_eq_true,aFm,Sem.run_bind,p1,p2,jZ,Result.andThen_ok];cases q with
      |false=>cases hb;simp
      |true=>simpa using ih r' b hr hb
  .cases h
def Sh:∀(f:Nat) (t:TypeId) (d:kj),fZ P f t=some d->∀n,f<n->E8 P w ρ d t n:=by
 intro f
 induction f with
 |zero=>intro t d h;cases h
 |succ f ih=>
  intro t d h n hn x y x' y' b hb hx hy;obtain⟨m,rfl⟩:∃m,n=m+1:=⟨n-1,qE⟩;simp only[fZ]at h
  split at h
  ·
    rename_i hu;cases h;simp only[lO]at hb
    split at hb
    .cases hx;cases hy;cases hb;rename_i a b;rw[run_equalIn_bool' w m t a b hu]
    .cases hb
  .rename_i k hu;cases h;simp only[lO]at hb
   split at hb
   .rw[aP]at hb
    split at hb
    .rename_i hk;rw[GP]at hk;subst hk;cases hx;cases hy;cases hb;rw[run_equalIn_int w m t _ _ _ _ hu];rfl
    .cases hb
   .cases hb
  .rename_i hu;cases h;simp only[lO]at hb
   split at hb
   .cases hx;cases hy;cases hb;rename_i a b;rw[run_equalIn_string w m t _ _ hu]
    congr 1
    rw[aGU,beq_iff_eq,beq_iff_eq,ByteArray.toList_eq,ByteArray.toList_eq];simp[strB]
   .cases hb
  .rename_i e hu
   split at h
   .rename_i i hi;rw[aP]at h
    split at h
    .cases h
    .rename_i hz;cases h;have hz':i.size≠0:=by simpa using hz
     have hs:(Go.sizeOf e).run P w=.ok i.size w:=ack
     simp only[lO]at hb
     split at hb
     .cases hx;cases hy;cases hb;simp[Op.equalIn,aEZ hu]
     .cases hx;cases hy;cases hb;simp[Op.equalIn,aEZ hu]
     .cases hx;cases hy;cases hb;simp[Op.equalIn,aEZ hu]
     .rename_i b1 o1 b2 o2;rw[aP]at hb
      split at hb
      .rename_i hq;simp only[aGa]at hq;subst hq
       cases hx with|ptr _ _ r sz hr=>cases hy with|ptr _ _ r2 sz2 Fe=>
        rw[hr]at Fe;cases Fe;cases hb
        have e:((⟨r,o1,none⟩:Addr)==⟨r,o2,none⟩)=Nat.beq o1 o2:=by
         rw[aGU,beq_iff_eq,aFw];simp
        simp[Op.equalIn,aEZ hu,hs,hz',sameAddr,e]
      .cases hb
     .cases hb
   .cases h
  .rename_i ms hu;cases h;simp only[lO]at hb
   split at hb
   .cases hx;cases hy;cases hb;simp[Op.equalIn,aEZ hu]
   .cases hx;cases hy;cases hb;simp[Op.equalIn,aEZ hu]
   .cases hx;cases hy;cases hb;simp[Op.equalIn,aEZ hu]
   .cases hb
  .rename_i e hu;cases h;simp only[lO]at hb
   split at hb
   .cases hx;cases hy;cases hb;simp[Op.equalIn,aEZ hu]
   .cases hx;cases hy<;>cases hb<;>simp[Op.equalIn,aEZ hu]
   .cases hy;cases hx<;>cases hb<;>simp[Op.equalIn,aEZ hu]
   .cases hb
  .rename_i k e hu;cases h;simp only[lO]at hb
   split at hb
   .cases hx;cases hy;cases hb;simp[Op.equalIn,aEZ hu]
   .cases hx;cases hy;cases hb;simp[Op.equalIn,aEZ hu]
   .cases hx;cases hy;cases hb;simp[Op.equalIn,aEZ hu]
   .cases hb
  .rename_i ps rs vv hu;cases h;simp only[lO]at hb
   split at hb
   .cases hx;cases hy;cases hb;simp[Op.equalIn,aEZ hu]
   .cases hx;cases hy;cases hb;simp[Op.equalIn,aEZ hu]
   .cases hx;cases hy;cases hb;simp[Op.equalIn,aEZ hu]
   .cases hb
  ·
    rename_i fs hu;rw[aP]at h
    split at h
    .cases h
    .rename_i hst;have ans:P.stoodInHeld t=false:=by simpa using hst
     split at h
     .rename_i l hl;cases h;simp only[lO]at hb
      split at hb
      .rename_i s1 s2
       cases hx with|agg _ l1 uT Vr=>cases hy with|agg _ l2 Ir hh2=>
        have hfo:P.fieldsOf t=fs:=by simp[Program.fieldsOf,hu]
        rw[run_equalIn_agg w m t _ _ (by rw[hfo];exact hu) ans,hfo];exact Kl (λt' d' hd=>ih t' d' hd m qE) ⟨uT,Vr⟩ ⟨Ir,hh2⟩ fs.toList l b hl hb
      .cases hb
     .cases h
  ·
    rename_i len e hu
    split at h
    .rename_i i hi Ot;rw[aP]at h
     split at h
     .rename_i h1;rw[aFw]at h1;cases h;simp only[lO]at hb
      split at hb
      .rename_i s1 s2
       split at hb
       .rename_i a b2 ha CX;rw[aP]at hb
        split at hb
        .rename_i hq;simp only[aFl,aGa]at hq;obtain⟨q1,q2⟩:=hq;cases hb;have e1:=vW ha;have e2:=vW CX;subst e1;subst e2;rw[hx.tY,hy.tY];obtain⟨m',rfl⟩:∃m',m=m'+1:=⟨m-1,qE⟩;rw[run_equalIn_bytes w m' t e _ hu Ot (λw=>by simp[Go.sizeOf,typeInfo,hi,h1]) _ _ q1 q2]
        .cases hb
       .cases hb
      .cases hb
     .cases h
    .rename_i i u ij hi Ot
     split at h
     .rename_i d' hd;cases h;simp only[lO]at hb
      split at hb
      .rename_i s1 s2
       cases hx with|agg _ l1 uT Vr=>cases hy with|agg _ l2 Ir hh2=>
        rw[run_equalIn_array w m _ _ hu hi,List.range_eq_range'];have hcs:P.cellsOf e=i.size:=by simp[Program.cellsOf,hi]
        rw[hcs];have:=Km (P:=P) (w:=w) (ρ:=ρ) len i.size _ d' hi rfl Ot rfl (ih e d' hd m qE) (s:=s1) (s2:=s2) (l:=l1) (l2:=l2) ⟨uT,Vr⟩ ⟨Ir,hh2⟩ 0 b acv;exact this
      .cases hb
     .cases h
    .cases h
  .cases h
end
end
section
variable {op:BinOp}{t:TypeId}{X Y:Operand}{x y:CV}{x':Value}
abbrev yQ (k:IntKind)(st:St)(r:Nat):OR:=.ok (.int k (r:Int)) st
def lP (op:BinOp)(k:IntKind)(a b:Int)(st:St):OR:=
 match op with
 | .add=>.ok (.int k (k.wrap (a+b))) st
 | .sub=>.ok (.int k (k.wrap (a-b))) st
 | .mul=>.ok (.int k (k.wrap (a*b))) st
 | .quo=>if b=0 then .bad else .ok (.int k (k.wrap (Int.tdiv a b))) st
 | .rem=>if b=0 then .bad else .ok (.int k (Int.tmod a b)) st
 | .eql=>.ok (.bool (decide (a=b))) st
 | .neq=>.ok (.bool (!decide (a=b))) st
 | .lss=>.ok (.bool (decide (a<b))) st
 | .leq=>.ok (.bool (decide (a<=b))) st
 | .gtr=>.ok (.bool (decide (b<a))) st
 | .geq=>.ok (.bool (decide (b<=a))) st
 | .shl| .shr=>.bad
 |op=>(match j8 op k a b with|some r=>.ok (.int k r) st|none=>.bad)
def jX (op:BinOp)(k:IntKind)(a:Int)(j:IntKind)(b:Int)(st:St):OR:=
 match op with
 | .shl=>if b<0 then .bad else .ok (.int k (k.wrap (a*2^(min b.toNat k.bits)))) st
 | .shr=>if b<0 then .bad else .ok (.int k (a.fdiv (2^(min b.toNat k.bits)))) st
 |op=>if k=j then lP op k a b st else .bad
section
variable {P:Program} {ρ:Ren} {st st':St} {w:World} {v:CV}
def zS (op:BinOp)(t:TypeId)(k:IntKind)(a b r:Int)(EC:op=.and\/op=.or\/op=.xor\/op=.andNot)(h:j8 op k a b=some r):
 (binOp op t (.int k a) (.int k b)).run P w=.ok (.int k r) w:=by
 have:=yh P w op k a b r h;rcases EC with rfl|rfl|rfl|rfl<;>simpa[binOp]using this
def Jx {k j:IntKind}{a b:Int}(h:jX op k a j b st=.ok v st')(hw:WR ρ st w):
 bK P (binOp op t (.int k a) (.int j b)) ρ st w v st':=by
 have fin:∀{s:Sem Value} {r:Int},s.run P w=.ok (.int k r) w->bK P s ρ st w (.int k r) st:=λhr=>bK.still hw hr (.int _ _);have xP:∀{s:Sem Value} {r:Bool},s.run P w=.ok (.bool r) w->bK P s ρ st w (.bool r) st:=λhr=>bK.still hw hr (.bool _);unfold jX at h
 split at h
 .split at h
  .cases h
  .rename_i hb;cases h;refine fin ?_;simp[binOp,Op.shift,hb]
 .split at h
  .cases h
  .rename_i hb;cases h;refine fin ?_;simp[binOp,Op.shift,hb]
 .rename_i BU Xq
  split at h
  .rename_i hk;subst hk;unfold lP at h
   split at h
   .cases h;exact fin abW
   .cases h;exact fin abW
   .cases h;exact fin abW
   .split at h
    .cases h
    .rename_i hz;cases h;exact fin (by simp[binOp,Op.intDiv,hz])
   .split at h
    .cases h
    .rename_i hz;cases h;exact fin (by simp[binOp,Op.intDiv,hz])
   .cases h;exact xP (by simp[binOp,Op.intCmp];rfl)
   .cases h;exact xP (by simp[binOp,Op.intCmp,bne];rfl)
   .cases h;exact xP (by simp only[binOp,Op.intCmp];first|rfl|(simp;done))
   .cases h;exact xP (by simp only[binOp,Op.intCmp];first|rfl|(simp;done))
   .cases h;exact xP (by simp only[binOp,Op.intCmp];first|rfl|(simp;done))
   .cases h;exact xP (by simp only[binOp,Op.intCmp];first|rfl|(simp;done))
   .cases h
   .cases h
   .split at h
    .rename_i r hr;cases h;refine fin (zS _ t k a b r ?_ hr);cases op<;>simp_all[j8]
    .cases h
  .cases h
def sF (op:BinOp)(a b:List UInt8)(st:St):OR:=
 match op with
 | .add=>if a.length+b.length<=9223372036854775807 then .ok (.str (a++b)) st else .bad
 | .eql=>.ok (.bool (a==b)) st
 | .neq=>.ok (.bool (!(a==b))) st
 | .lss=>.ok (.bool (Op.bytesLess a b)) st
 | .leq=>.ok (.bool (Op.bytesLess a b||(a==b))) st
 | .gtr=>.ok (.bool (!(Op.bytesLess a b||(a==b)))) st
 | .geq=>.ok (.bool (!(Op.bytesLess a b))) st
 |_=>.bad
def FG (a b:List UInt8):strB a++strB b=strB (a++b):=by
 apply ByteArray.ext;show(_:ByteArray).data=_;simp[strB,ByteArray.data_append]
def kU (a:List UInt8):(strB a).toList=a:=by rw[ByteArray.toList_eq];simp[strB]
def Ju {a b:List UInt8}(h:sF op a b st=.ok v st')(hw:WR ρ st w):
 bK P (binOp op t (.string (strB a)) (.string (strB b))) ρ st w v st':=by
 have xP:∀{s:Sem Value} {r:Bool},s.run P w=.ok (.bool r) w->bK P s ρ st w (.bool r) st:=λhr=>bK.still hw hr (.bool _);unfold sF at h
 split at h
 .split at h
  .rename_i hle;cases h;refine bK.still hw (v':=.string (strB a++strB b)) ?_ (by rw[FG];exact .str _);have hm:IntKind.i64.max=9223372036854775807:=by decide
   have:¬((((strB a).size+(strB b).size:Nat):Int)>IntKind.i64.max):=by
    rw[kV,kV,hm];omega
   simp only[binOp,Op.stringOp];rw[aET this];rfl
  .cases h
 .cases h;exact xP Te
 .cases h;exact xP Te
 .cases h;exact xP Te
 .cases h;exact xP Te
 .cases h;exact xP Te
 .cases h;exact xP Te
 .cases h
def NU (d:kj)(Bt:Bool)(x y:CV):Option Bool:=match x,y with| .gz,.gz=>bH Bt (lO d x y) none|_,_=>lO d x y
def HV (d:kj):Bool:=match d with| .bytes _| .struct _| .array .. =>true|_=>false
def pEq (op:BinOp)(d:kj)(Bt:Bool)(x y:CV)(st:St):OR:=
 match op,NU d Bt x y with
 | .eql,some b=>.ok (.bool b) st
 | .neq,some b=>.ok (.bool (!b)) st
 |_,_=>.bad
def wm (op:BinOp)(k:IntKind)(a:Int)(m:Nat)(st:St):OR:=
 match op,k with
 | .gtr,.i64=>bH (decide ((m:Int)<a)) .bad (.ok (.bool false) st)
 |_,_=>.bad
def ai (op:BinOp)(d:Option kj)(Bt:Bool)(x y:CV)(st:St):OR:=
 match x,y with
 | .int k a,.int j b=>jX op k a j b st
 | .str a,.str b=>sF op a b st
 | .int k a,.ib m=>wm op k a m st
 | .ib _,_=>.bad
 |_,.ib _=>.bad
 | .any,_=>.bad
 |_,.any=>.bad
 |x,y=>(match d with|some d=>pEq op d Bt x y st|none=>.bad)
def Ma (x y:Operand):Bool:=(match x with| .const _=>true|_=>false)||(match y with| .const _=>true|_=>false)
def my {a b:Value}(h1:¬(a=.nilIface/\b=.nilIface))(h2:∀c d,¬(a=.agg c/\b=.agg d)):
 (eqGuard op t X Y a b).run P w=.ok () w:=by
 cases op<;>first
  |rfl
  |(simp only[eqGuard,aFh,aEM,aFa]
    split
    .exact absurd ⟨rfl,rfl⟩ h1
    .exact absurd ⟨rfl,rfl⟩ (h2 _ _)
    .rfl)
def Hz (h:Ma X Y=true):(eqGuard op t X Y .nilIface .nilIface).run P w=.ok () w:=by
 cases X<;>cases Y<;>first|(simp[Ma]at h;done)|(cases op<;>rfl)
def VW {d:kj}{b:Bool}(h:lO d x y=some b){s:List CV}(hx:x=.agg s):HV d=true:=by
 subst hx;cases d<;>simp[HV,lO]at h⊢
def JA {d:Option kj}{Bt:Bool}{y':Value}{f:Nat}(h:ai op d Bt x y st=.ok v st')(hw:WR ρ st w)(hx:VR ρ x x')(hy:VR ρ y y')
 (hd:∀e,d=some e->fZ P f t=some e) (hf:f<10000) (hc:Bt=Ma X Y) (hg:∀e,d=some e->HV e=true->P.eqGuardType P.depth t=false):
 bK P (do eqGuard op t X Y x' y';binOp op t x' y') ρ st w v st':=by
 have quiet:∀{a b:Value},(eqGuard op t X Y a b).run P w=.ok () w->bK P (binOp op t a b) ρ st w v st'->bK P (do eqGuard op t X Y a b;binOp op t a b) ρ st w v st':=by
  intro a b hq hd;obtain⟨v',w',ρ',h1,h2,h3⟩:=hd;exact⟨v',w',ρ',by simp[hq,h1],h2,h3⟩
 unfold ai at h
 split at h
 .cases hx;cases hy;exact quiet (my uG uG) (Jx h hw)
 .cases hx;cases hy;exact quiet (my uG uG) (Ju h hw)
 .rename_i q a m;cases hx;cases hy with
  |ib _ c hc=>
   unfold wm at h
   split at h
   .rw[aP]at h
    split at h
    .cases h
    .rename_i hlt;cases h;have h1':¬((m:Nat):Int)<a:=by simpa using hlt
     refine quiet (my uG uG) (bK.still hw ?_ (.bool false));have h2:decide (c<a)=false:=vR
     simp[binOp];show Sem.run P (pure (Value.bool (decide (c<a)))) w=_;rw[h2];rfl
   .cases h
 .cases h
 .cases h
 .cases h
 .cases h
 .rename_i hna hax G0 hay hni hns hnc
  split at h
  .rename_i e
   have key:∀b,NU e Bt x y=some b->(Op.equal t x' y').run P w=.ok b w/\(eqGuard op t X Y x' y').run P w=.ok () w:=by
    intro b hb
    have qz:lO e x y=some b:=by
     unfold NU at hb
     split at hb
     .rw[aP]at hb;split at hb
      .exact hb
      .cases hb
     .exact hb
    refine⟨Sh (P:=P) (w:=w) (ρ:=ρ) f t e (hd e rfl) 10000 hf x y x' y' b qz hx hy,?_⟩
    by_cases h1:x'=.nilIface/\y'=.nilIface
    .obtain⟨rfl,rfl⟩:=h1;cases hx<;>first|(exact absurd rfl hax)|skip
     cases hy<;>first|(exact absurd rfl hay)|skip
     have:Bt=true:=by
      have e:NU e Bt .gz .gz=bH Bt (lO e .gz .gz) none:=rfl;rw[e,aP]at hb
      split at hb
      .assumption
      .cases hb
     exact Hz (by rw[<-hc,this])
    .by_cases h2:∃c d,x'=.agg c/\y'=.agg d
     .obtain⟨c,d,rfl,rfl⟩:=h2;have:HV e=true:=by cases hx with|agg s l _ _=>exact VW qz rfl|any=>exact absurd rfl hax
      exact run_eqGuard_agg w op t X Y c d (hg e rfl this)
     .exact my h1 (λc d hh=>h2 ⟨c,d,hh⟩)
   have LG:∀k k' a b,¬(x'=.int k a/\y'=.int k' b):=by
    rintro k k' a b ⟨rfl,rfl⟩;cases hx with
    |any=>exact hax rfl
    |ib _ _ _=>exact hna _ rfl
    |int _ _=>
     cases hy with
     |any=>exact hay rfl
     |ib _ _ _=>exact G0 _ rfl
     |int _ _=>exact hni _ _ _ _ rfl rfl
   unfold pEq at h
   split at h
   .rename_i b hb;obtain⟨k1,k2⟩:=key b hb;cases h;refine quiet k2 (bK.still hw ?_ (.bool b))
    cases hx<;>first
     |(exact absurd rfl hax)
     |(cases hy<;>first
      |(exact absurd rfl hay)
      |(exact absurd ⟨rfl,rfl⟩ (LG _ _ _ _))
      |(exact(hns _ _ rfl rfl).elim)
      |(simp only[binOp];simp[k1]))
   .rename_i b hb;obtain⟨k1,k2⟩:=key b hb;cases h;refine quiet k2 (bK.still hw ?_ (.bool _))
    cases hx<;>first
     |(exact absurd rfl hax)
     |(cases hy<;>first
      |(exact absurd rfl hay)
      |(exact absurd ⟨rfl,rfl⟩ (LG _ _ _ _))
      |(exact(hns _ _ rfl rfl).elim)
      |(simp only[binOp];simp[k1]))
   .cases h
  .cases h
def kY (op:UnOp)(x:CV)(st:St):OR:=
 match op,x with
 | .not,.bool b=>.ok (.bool (!b)) st
 | .neg,.int k n=>.ok (.int k (k.wrap (0-n))) st
 | .xor,.int k n=>(match j8 .xor k (if k.signed then-1 else k.max) n with|some r=>.ok (.int k r) st|none=>.bad)
 |_,_=>.bad
def MR {op:UnOp}(h:kY op x st=.ok v st')(hw:WR ρ st w)(hx:VR ρ x x'):bK P (Op.unary op x') ρ st w v st':=by
 unfold kY at h
 split at h
 .cases h;cases hx;exact bK.still hw rfl (.bool _)
 .cases h;cases hx;exact bK.still hw rfl (.int _ _)
 .rename_i k n
  split at h
  .rename_i r hr;cases h;cases hx;exact bK.still hw (yh P w .xor k _ n r hr) (.int _ _)
  .cases h
 .cases h
end
end
