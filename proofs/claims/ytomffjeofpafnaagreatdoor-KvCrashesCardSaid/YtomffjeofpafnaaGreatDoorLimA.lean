import Derived.WalkKit
import Derived.ChangeKeysEq
import Derived.Stop.BytesEq
namespace Lim
open Go
abbrev aHG:=@List.getElem?_cons_zero
abbrev aHH:=@Bool.false_eq_true
abbrev aHI:=@List.getElem?_cons_succ
abbrev aHJ:=@List.mem_cons
abbrev aHK:=@Nat.le_refl
abbrev aHL:=@decide_eq_false
abbrev aHM:=@if_neg
abbrev aHN:=@Nat.zero_add
abbrev aHO:=@List.getElem?_eq_getElem
abbrev aHP:=@if_pos
abbrev aHQ:=@decide_eq_true
abbrev aHR:=@List.length_append
abbrev aHS:=@List.take_of_length_le
abbrev aHT:=@List.mem_append
abbrev aHU:=@run_underlying
abbrev aHV:=@if_false
abbrev aHW:=@List.getElem?_eq_some_iff
abbrev aHX:=@List.nodup_cons
abbrev aHY:=@Bool.not_false
abbrev aHZ:=@List.length_take
abbrev aIa:=@List.take_succ_eq_append_getElem
abbrev aIb:=@Bool.not_true
abbrev aIc:=@List.getElem_mem
abbrev aId:=@Nat.lt_of_lt_of_le
abbrev aIe:=@List.drop_eq_getElem_cons
abbrev aIf:=@Bool.and_eq_true
abbrev aIg:=@List.length_cons
abbrev aIh:=@List.length_eq_zero_iff
abbrev aIi:=@decide_eq_decide
abbrev aIj:=@if_true
abbrev aIk:=@List.mem_map
abbrev aIl:=@List.length_drop
abbrev aIm:=@List.nil_append
abbrev aIn:=@List.drop_zero
abbrev aIo:=@List.not_mem_nil
abbrev aIp:=@List.drop_of_length_le
abbrev aIq:=@List.append_assoc
abbrev aIr:=@Nat.ble_eq
abbrev aIs:=@Nat.beq_eq
abbrev aIt:=@List.map_cons
abbrev aIu:=@List.getElem?_map
abbrev aIv:=@Nat.add_zero
abbrev aIw:=@List.mem_of_mem_take
abbrev aIx:=@List.length_map
abbrev aIy:=@Array.getElem?_eq_some_iff
abbrev aIz:=@Nat.le_trans
abbrev aIA:=@List.take_append_drop
abbrev aIB:=@Nat.mul_le_mul_right
abbrev aIC:=@Nat.min_eq_left
abbrev aID:=@List.mem_of_mem_drop
abbrev aIE:=@List.nodup_append
abbrev aIF:=@List.length_replicate
abbrev aIG:=@Ne.symm
abbrev aIH:=@List.mem_cons_of_mem
abbrev aII:=@List.mem_of_getElem?
abbrev aIJ:=@List.append_nil
abbrev aIK:=@Bool.or_eq_true
abbrev aIL:=@List.cons_append
abbrev aIM:=@List.getElem_of_mem
abbrev aIN:=@List.getElem?_eq_none
abbrev aIO:=@List.mem_cons_self
abbrev aIP:=@decide_eq_true_eq
abbrev aIQ:=@List.map_append
abbrev aIR:=@List.mem_filter
abbrev aIS:=@decide_true
abbrev aIT:=@Nat.eq_of_mul_eq_mul_right
abbrev aIU:=@Array.getElem?_setIfInBounds_ne
abbrev aIV:=@Nat.add_mul
abbrev aIW:=@List.mem_map_of_mem
abbrev aIX:=@Nat.lt_or_ge
abbrev aIY:=@List.getElem?_append_right
abbrev aIZ:=@Option.map_some
abbrev aJa:=@List.filter_cons
abbrev aJb:=@List.mem_singleton
abbrev aJc:=@List.take_take
abbrev aJd:=@List.getElem?_toArray
abbrev aJe:=@List.getElem?_take
abbrev aJf:=@not_or
abbrev aJg:=@Option.getD_some
abbrev aJh:=@Nat.add_sub_cancel
abbrev aJi:=@List.getElem?_append_left
abbrev aJj:=@or_false
abbrev aJk:=@List.take_left'
abbrev aJl:=@List.cons.injEq
abbrev aJm:=@decide_false
abbrev aJn:=@Nat.add_sub_cancel_left
abbrev aJo:=@Option.some.injEq
abbrev aJp:=@Array.toArray_toList
abbrev aJq:=@List.pairwise_append
abbrev aJr:=@Nat.mul_one
abbrev aJs:=@List.map_drop
abbrev aJt:=@List.filter_append
abbrev aJu:=@List.length_pos_iff
abbrev aJv:=@Array.toList_map
abbrev aJw:=@List.getElem_map
abbrev aJx:=@List.flatten_cons
abbrev aJy:=@List.getD_eq_getElem?_getD
abbrev aJz:=@List.mem_append_left
abbrev aJA:=@List.getElem?_drop
abbrev aJB:=@List.length_nil
abbrev aJC:=@Nat.mod_eq_of_lt
abbrev aJD:=@Prod.mk.injEq
abbrev aJE:=@List.perm_iff_count
abbrev aJF:=@List.drop_take
abbrev aJG:=@List.take_zero
abbrev aJH:=@Bool.eq_iff_iff
abbrev aJI:=@List.map_take
abbrev aJJ:=@List.take_append
abbrev aJK:=@Array.length_toList
abbrev aJL:=@Nat.zero_le
abbrev aJM:=@List.count_append
abbrev aJN:=@List.mem_or_eq_of_mem_set
abbrev aJO:=@Nat.mul_comm
abbrev aJP:=@UInt8.lt_iff_toNat_lt
abbrev aJQ:=@List.nodup_nil
abbrev aJR:=@List.ext_getElem?
abbrev aJS:=@Int.toNat_natCast
abbrev aJT:=@List.pairwise_map
abbrev aJU:=@of_decide_eq_true
abbrev aJV:=@Nat.one_mul
abbrev aJW:=@List.replicate_succ
abbrev aJX:=@Option.some.inj
abbrev aJY:=@List.drop_replicate
abbrev aJZ:=@List.count_cons
abbrev aKa:=@List.flatten_append
abbrev aKb:=@List.findIdx_le_length
abbrev aKc:=@true_and
abbrev aKd:=@List.all_eq_true
abbrev aKe:=@UInt8.toNat_ofNat'
abbrev aKf:=@Int.natCast_nonneg
abbrev aKg:=@List.set_eq_take_append_cons_drop
abbrev aKh:=@Nat.eq_or_lt_of_le
abbrev aKi:=@List.pairwise_cons
abbrev aKj:=@Option.isSome_some
abbrev aKk:=@Option.isSome_none
abbrev aKl:=@List.pairwise_iff_getElem
abbrev aKm:=@Nat.pow_le_pow_right
abbrev aKn:=@List.reverse_reverse
abbrev aKo:=@List.Pairwise.filter
abbrev aKp:=@List.size_toArray
abbrev aKq:=@Nat.mod_lt
abbrev aKr:=@List.foldl_append
abbrev aKs:=@List.map_map
abbrev aKt:=@Nat.pow_succ
abbrev aKu:=@Array.getElem?_push
abbrev aKv:=@List.drop_succ_cons
abbrev aKw:=@List.length_reverse
abbrev aKx:=@Nat.lt_succ_self
abbrev aKy:=@Nat.le_add_right
abbrev aKz:=@List.drop_drop
abbrev aKA:=@List.filter_eq_nil_iff
abbrev aKB:=@Array.toList_range
abbrev aKC:=@Array.getElem?_append
abbrev aKD:=@Nat.succ_le_iff
abbrev aKE:=@Option.map_none
abbrev aKF:=@List.drop_left'
abbrev aKG:=@List.mem_append_right
abbrev aKH:=@Bool.not_eq_true'
abbrev aKI:=@Nat.lt_trichotomy
abbrev aKJ:=@List.find?_append
abbrev aKK:=@Nat.mul_le_mul
abbrev aKL:=@Nat.add_comm
noncomputable section
set_option linter.defProp false
def uM{p:Prop}(h:p:=by omega):p:=h
def wb{p:Prop}(h:p:=by simp):p:=h
def xI{p:Prop}(h:p:=by decide):p:=h
def zR{p:Prop}(h:p:=by kernel_rfl):p:=h
def zS{p:Prop}(h:p:=by simp;omega):p:=h
def BT{p:Prop}(h:p:=by rw[av,dh];congr 2;simp only[aIi];omega):p:=h
def F7{p:Prop}(h:p:=by rw[av,cI,bA (by omega)];rfl):p:=h
def Gd{p:Prop}(h:p:=by rw[av,dS,bA (by omega)];congr 2;omega):p:=h
def I2{p:Prop}(h:p:=by simpa using hc):p:=h
def O8{p:Prop}(h:p:=by rw[av,cI,bA (by omega)];congr 2):p:=h
def O9{p:Prop}(h:p:=by rw[av,cC];congr 2;simp only[aIi];omega):p:=h
def Pe{p:Prop}(h:p:=by rw[av,cC,aHL (by omega)]):p:=h
def Tc{p:Prop}(h:p:=by have:=tY b hb;omega):p:=h
def TK{p:Prop}(h:p:=by simpa using h):p:=h
def TL{p:Prop}(h:p:=by simp[hb]):p:=h
def TO{p:Prop}(h:p:=by have:=uU b hb;omega):p:=h
def TP{p:Prop}(h:p:=by rw[aHZ];omega):p:=h
def Wv{p:Prop}(h:p:=by rw[av,lU];congr 2;simp only[aIi];omega):p:=h
def Ww{p:Prop}(h:p:=by rw[av,jj,bA (by omega)];rfl):p:=h
def Yt{p:Prop}(h:p:=by simpa using hlt):p:=h
def Yu{p:Prop}(h:p:=by rw[ak _ _ _ _ (by omega),aX _ _ _ (by omega)];exact g3):p:=h
def Yv{p:Prop}(h:p:=by rw[aIn,aHS (by omega)]):p:=h
def Yx{p:Prop}(h:p:=by simpa using hx):p:=h
def Yy{p:Prop}(h:p:=by simpa using hi):p:=h
def aaa{p:Prop}(h:p:=by simp[hq]):p:=h
def aaj{p:Prop}(h:p:=by rw[show List.findIdx (λc:dq=>decide (lj key c.key)) n.cells=n.find key from rfl,<-h];exact hc):p:=h
def aal{p:Prop}(h:p:=by simpa using h1):p:=h
def aap{p:Prop}(h:p:=by simp at h):p:=h
def aaq{p:Prop}(h:p:=by simp[binOp,Op.stringOp,lu]):p:=h
def aau{p:Prop}(h:p:=by rw[ak _ _ _ _ (by omega),aX _ _ _ (by omega)];exact g1):p:=h
def aaI{p:Prop}(h:p:=by rw[av,c8];congr 2;simp only[aIi];omega):p:=h
def aaK{p:Prop}(h:p:=by rw[aIl];omega):p:=h
def aaX{p:Prop}(h:p:=by simp[h]):p:=h
def aaY{p:Prop}(h:p:=by simp[hq x hx]):p:=h
def aba{p:Prop}(h:p:=by simp[hx]):p:=h
def abb{p:Prop}(h:p:=by simp[ki,mm]):p:=h
def abm{p:Prop}(h:p:=by simpa using h2):p:=h
def abn{p:Prop}(h:p:=by simpa using hT):p:=h
def abr{p:Prop}(h:p:=by have:=hF b hb;simp;omega):p:=h
def abu{p:Prop}(h:p:=by rw[av,c8,aHL (by omega)]):p:=h
def abv{p:Prop}(h:p:=by rw[<-hl];rfl):p:=h
def abx{p:Prop}(h:p:=by have:=h.lt;omega):p:=h
def abA{p:Prop}(h:p:=by simp[zeroValue,typeInfo,hi,hz]):p:=h
def abG{p:Prop}(h:p:=by rw[bA (by omega)];omega):p:=h
def abV{p:Prop}(h:p:=by have:=(tY b hb).2;omega):p:=h
def acb{p:Prop}(h:p:=by have:=hw.fresh b x hx;rw[e]at this;omega):p:=h
def acd{p:Prop}(h:p:=by rw[aIr];omega):p:=h
def acg{p:Prop}(h:p:=by rw[Ren.dy _ _ _ _ (gV b _ hr)];exact hr):p:=h
def ach{p:Prop}(h:p:=by rw[dz.len];exact aHK _):p:=h
def aci{p:Prop}(h:p:=by show(St.new _ _).m.g (st.nx+1)=_;rw[aX _ _ _ (by simp)];rfl):p:=h
def ack{p:Prop}(h:p:=by simp[ai]):p:=h
def acm{p:Prop}(h:p:=by simp[bg]):p:=h
def acn{p:Prop}(h:p:=by simpa using he):p:=h
def aco{p:Prop}(h:p:=by simpa using hs):p:=h
def acp{p:Prop}(h:p:=by have:=wX (i:=0) hj;simpa using this):p:=h
def acq{p:Prop}(h:p:=by rw[e];unfold DG;rw[hc];dsimp only;rw[hv];exact hN m hm):p:=h
def acr{p:Prop}(h:p:=by rw[Ren.dy _ _ _ _ (λe=>by rw[e]at hq;omega)];exact hn):p:=h
def acs{p:Prop}(h:p:=by split<;>omega):p:=h
def acu{p:Prop}(h:p:=by simp[o1]):p:=h
def acv{p:Prop}(h:p:=by rw[t3];exact hB):p:=h
def acw{p:Prop}(h:p:=by have:=h.pg.lt b hh;omega):p:=h
def acC{p:Prop}(h:p:=by have:=b.node.ok.cell;rw[b.inner]at this;exact this):p:=h
def acD{p:Prop}(h:p:=by have h2:=Cj b hb;have h3:=UE b (by simp[hh]);omega):p:=h
def acE{p:Prop}(h:p:=by rw[jJ];exact aHK _):p:=h
def acF{p:Prop}(h:p:=by rw[bQ];omega):p:=h
def acG{p:Prop}(h:p:=by rw[h.eq];simpa using hb):p:=h
def acH{p:Prop}(h:p:=by have:=(a3 b hb).1;omega):p:=h
def acI{p:Prop}(h:p:=by have:=(hF q hq).2;omega):p:=h
def acJ{p:Prop}(h:p:=by simpa using hb):p:=h
def acK{p:Prop}(h:p:=by simpa using gV):p:=h
def acL{p:Prop}(h:p:=by rw[List.length_zip,dz.len];simp):p:=h
def acM{p:Prop}(h:p:=by rw[aX _ _ _ (by simp;omega),aX _ _ _ (by simp)]):p:=h
def acN{p:Prop}(h:p:=by rw[h3];show(cZ M.dirty n).getD []=s';rw[q1];rfl):p:=h
def acO{p:Prop}(h:p:=by rw[<-i2 q λj t g1 g2=>hq j t g1 (by omega),I6]):p:=h
def acP{p:Prop}(h:p:=by simp[x2,y2]):p:=h
def acQ{p:Prop}(h:p:=by simp[binOp,Op.intArith]<;>rfl):p:=h
def acR{p:Prop}(h:p:=by rw[h.eq];simp):p:=h
def acS{p:Prop}(h:p:=by rw[gO];decide):p:=h
def acT{p:Prop}(h:p:=by show 1+D.aq.length/4<=_;omega):p:=h
def acU{p:Prop}(h:p:=by rw[<-e];exact h1):p:=h
def acV{p:Prop}(h:p:=by simp at hq;omega):p:=h
def acW{p:Prop}(h:p:=by unfold PI.W;simp):p:=h
def acX{p:Prop}(h:p:=by rw[tZ hu,show iO u=false by simpa using ha]):p:=h
def acY{p:Prop}(h:p:=by unfold cO;simp;omega):p:=h
def acZ{p:Prop}(h:p:=by rw[qQ];rw[e2]at e5;exact e5):p:=h
def ada{p:Prop}(h:p:=by simp[Go.sizeOf,typeInfo,hi]):p:=h
def adb{p:Prop}(h:p:=by simp[h2]):p:=h
def ade{p:Prop}(h:p:=by simp only[aHJ,aHT,aJf];exact⟨x4,x5,x6,x7⟩):p:=h
def adf{p:Prop}(h:p:=by simp only[aHJ,aHT,aJf];exact⟨dn,dg,dm,dt⟩):p:=h
def adg{p:Prop}(h:p:=by have:=lc b hb;omega):p:=h
def adh{p:Prop}(h:p:=by simpa using hF b hb):p:=h
def adi{p:Prop}(h:p:=by have:=rH q hh;omega):p:=h
def adj{p:Prop}(h:p:=by have:=uU _ hh;omega):p:=h
def adk{p:Prop}(h:p:=by simp[hh]):p:=h
def adl{p:Prop}(h:p:=by show 0<D.aq.length/4;omega):p:=h
def adm{p:Prop}(h:p:=by simpa using hl):p:=h
def adn{p:Prop}(h:p:=by simpa using hj):p:=h
def ado{p:Prop}(h:p:=by simpa using sD):p:=h
def adp{p:Prop}(h:p:=by show base<=_;omega):p:=h
def adq{p:Prop}(h:p:=by simpa using (List.mem_range'_1.1 hj).2):p:=h
def adr{p:Prop}(h:p:=by rw[mU _ _ _ (by simp[te];omega)];omega):p:=h
def ads{p:Prop}(h:p:=by simp[Builtin.firstCells]):p:=h
def adt{p:Prop}(h:p:=by rw[<-aJp (xs:=args'),e1]):p:=h
def adu{p:Prop}(h:p:=by unfold aU.Dq;rw[hw];simp):p:=h
def adv{p:Prop}(h:p:=by have:=h.pg.lt _ hh;omega):p:=h
def adw{p:Prop}(h:p:=by simpa using a):p:=h
def adx{p:Prop}(h:p:=by rw[<-e4];exact h1):p:=h
def ady{p:Prop}(h:p:=by simp[e]):p:=h
def adz{p:Prop}(h:p:=by have:=si.nx;omega):p:=h
def adA{p:Prop}(h:p:=by have:=ht.lt;omega):p:=h
def adB{p:Prop}(h:p:=by have:=(Oa q hq).1;omega):p:=h
def adC{p:Prop}(h:p:=by have:=(Oa b hb).1;omega):p:=h
def adD{p:Prop}(h:p:=by rw[av,dS,bA (by omega)]):p:=h
def adE{p:Prop}(h:p:=by have:=(a3 q hq).1;omega):p:=h
def adF{p:Prop}(h:p:=by have:=(hF b hb).2;omega):p:=h
def adG{p:Prop}(h:p:=by have:=(Om _ hh).1;omega):p:=h
def adH{p:Prop}(h:p:=by have:=(tY b hb).1;omega):p:=h
def adI{p:Prop}(h:p:=by have:=(hG b hb).2;omega):p:=h
def adJ{p:Prop}(h:p:=by simp[eS]):p:=h
def adK{p:Prop}(h:p:=by rw[aJv];exact Vh):p:=h
def adL{p:Prop}(h:p:=by rw[bQ,ecl];omega):p:=h
def adM{p:Prop}(h:p:=by simp only[aIf,aIr];exact⟨hk,q1,q2⟩):p:=h
def adN{p:Prop}(h:p:=by rw[QO];exact e1):p:=h
def adO{p:Prop}(h:p:=by simp at hb;simp;omega):p:=h
def adP{p:Prop}(h:p:=by rw[um,aHP (by omega)]):p:=h
def adQ{p:Prop}(h:p:=by unfold PI.all;simp[e]):p:=h
def adR{p:Prop}(h:p:=by simp only[aIg];omega):p:=h
def adW{p:Prop}(h:p:=by rw[e];exact uZ):p:=h
def aea{p:Prop}(h:p:=by simp[te];omega):p:=h
def ael{p:Prop}(h:p:=by simp[h1]):p:=h
def aem{p:Prop}(h:p:=by simpa using hn.symm):p:=h
def aeq{p:Prop}(h:p:=by simp at hx;simp[hx]):p:=h
def aer{p:Prop}(h:p:=by have:=lF b hb;omega):p:=h
def aeG{p:Prop}(h:p:=by simp at hh;simp[hh]):p:=h
def aeH{p:Prop}(h:p:=by have:=Om b hb;omega):p:=h
def aeQ{p:Prop}(h:p:=by simpa using b):p:=h
def aeU{p:Prop}(h:p:=by rw[aHR];omega):p:=h
def aeZ{p:Prop}(h:p:=by rw[aIV];omega):p:=h
def afc{p:Prop}(h:p:=by simp[bo.size]):p:=h
def afk{p:Prop}(h:p:=by exact λ_ h=>.inl h):p:=h
def afp:True:=trivial
def PT (α:Type):=Nat->Option α
namespace PT
variable {α:Type}
def g (t:PT α)(p:Nat):Option α:=t p
def put (t:PT α)(p:Nat)(x:Option α):PT α:=λq=>if q=p then x else t q
def nil:PT α:=λ_=>none
def eW (t:PT α)(p q:Nat)(x:Option α):(t.put p x).g q=if q=p then x else t.g q:=rfl
def dj (t:PT α)(p:Nat)(x:Option α):(t.put p x).g p=x:=by simp[eW]
def du (t:PT α)(p q:Nat)(x:Option α)(h:q≠p):(t.put p x).g q=t.g q:=by simp[eW,h]
@[simp] def get_nil (p:Nat):(nil:PT α).g p=none:=rfl
def ext {t u:PT α}(h:∀p,t.g p=u.g p):t=u:=funext h
end PT
def bE {α:Type}(b:Bool)(t f:α):α:=if b=true then t else f
@[simp] def aO {α:Type}(b:Bool)(t f:α):bE b t f=if b=true then t else f:=rfl
def pT {α a:Type}(x:α)(k:α->a):a:=k x
@[simp] def dH {α a:Type}(x:α)(k:α->a):pT x k=k x:=rfl
inductive CV where
 |undef
 |bool (b:Bool)
 |int (k:IntKind) (n:Int)
 |str (l:List UInt8)
 |bq
 |ptr (b:Nat) (off:Nat)
 |ae
 |slice (b:Nat) (off len cap grow:Nat)
 |fJ
 |map (b:Nat)
 |func (fn:Fn) (first captured:List CV)
 |mL
 |iface (t:TypeId) (v:CV)
 |gz
 |agg (s:List CV)
 |tuple (s:List CV)
 |ir (n:Nat)
 |any
 |mr
def bP (b:UInt8):CV:=.int .u8 b.toNat
abbrev row (s:List CV):List CV:=s
def gY {α:Type}(s:List α)(off n:Nat):Option (List α):=if off+n<=s.length then some ((s.drop off).take n)else none
def dZ {α:Type}(s:List α)(off:Nat)(t:List α):Option (List α):=if off+t.length<=s.length then some (s.take off++(t++s.drop (off+t.length)))else none
def ko {α:Type}{s t:List α}{off n:Nat}(h:gY s off n=some t):off+n<=s.length/\t=(s.drop off).take n:=by
 unfold gY at h;split at h
 .cases h;exact⟨by assumption,rfl⟩
 .cases h
def yL {α:Type}{s t s':List α}{off:Nat}(h:dZ s off t=some s'):off+t.length<=s.length/\s'=s.take off++(t++s.drop (off+t.length)):=by
 unfold dZ at h;split at h
 .cases h;exact⟨by assumption,rfl⟩
 .cases h
section
variable {v:CV}{v':Value}{l:List CV}{l':List Value}{o:Obj}{w':World}{sz r:Nat}
inductive rU where
 |cells (s:List CV) (t:TypeId) (grow:Bool)
 |map (es:List (CV×CV×Nat)) (clock:Nat)
 |lmap (es:List (CV×CV×Nat))
 |ro (s:List CV) (o:Obj)
structure St where
 m:PT rU
 nx:Nat
abbrev Ren:=Nat->Option (Nat×Nat)
def gF (l:List UInt8):ByteArray:=⟨l.toArray⟩
@[simp] def lz (l:List UInt8):(gF l).size=l.length:=by simp[gF,ByteArray.size]
def oo (s:ByteArray):gF s.data.toList=s:=by cases s;simp[gF]
inductive VR (ρ:Ren):CV->Value->Prop where
 |undef:VR ρ .undef (.tuple #[])
 |bool (b:Bool):VR ρ (.bool b) (.bool b)
 |int (k:IntKind) (n:Int):VR ρ (.int k n) (.int k n)
 |str (l:List UInt8):VR ρ (.str l) (.string (gF l))
 |bq:VR ρ .bq (.pointer none)
 |ptr (b:Nat) (off r sz:Nat) (h:ρ b=some (r,sz)):VR ρ (.ptr b off) (.pointer (some ⟨r,off,none⟩))
 |ae:VR ρ .ae (.slice none 0 0)
 |slice (b:Nat) (off len cap r sz:Nat) (h:ρ b=some (r,sz)):VR ρ (.slice b off len cap 0) (.slice (some ⟨r,off,none⟩) len cap)
 |oI (b:Nat) (off dC len cap ft grow r sz:Nat) (h:ρ b=some (r,sz)) (hg:0<grow) (hl:len<=cap) (hc:cap<=ft) (ho:0<cap->dC=off)
  (hs:dC+ft*grow<=sz):VR ρ (.slice b off len cap grow) (.slice (some ⟨r,dC,none⟩) len ft)
 |fJ:VR ρ .fJ (.map none)
 |map (b:Nat) (r sz:Nat) (h:ρ b=some (r,sz)):VR ρ (.map b) (.map (some r))
 |func (fn:Fn) (f c:List CV) (f' c':List Value) (hf:(row f).length=f'.length) (hc:(row c).length=c'.length)
  (h1:∀(i:Nat) (v:CV) (v':Value),(row f)[i]?=some v->f'[i]?=some v'->VR ρ v v')
  (h2:∀(i:Nat) (v:CV) (v':Value),(row c)[i]?=some v->c'[i]?=some v'->VR ρ v v'):VR ρ (.func fn f c) (.func fn f'.toArray c'.toArray)
 |mL:VR ρ .mL .nilFunc
 |iface (t:TypeId) (v:CV) (v':Value) (h:VR ρ v v'):VR ρ (.iface t v) (.iface t v')
 |gz:VR ρ .gz .nilIface
 |agg (s:List CV) (l:List Value) (hl:(row s).length=l.length)
  (h:∀(i:Nat) (v:CV) (v':Value),(row s)[i]?=some v->l[i]?=some v'->VR ρ v v'):VR ρ (.agg s) (.agg l.toArray)
 |tuple (s:List CV) (l:List Value) (hl:(row s).length=l.length)
  (h:∀(i:Nat) (v:CV) (v':Value),(row s)[i]?=some v->l[i]?=some v'->VR ρ v v'):VR ρ (.tuple s) (.tuple l.toArray)
 |ir (n:Nat) (m:Int) (h:(n:Int)<=m):VR ρ (.ir n) (.int .i64 m)
 |any (v':Value):VR ρ .any v'
 |mr (a:Addr):VR ρ .mr (.slice (some a) 0 0)
structure eM (ρ:Ren)(l:List CV)(l':List Value):Prop where
 len:l.length=l'.length
 at':∀(i:Nat) (v:CV) (v':Value),l[i]?=some v->l'[i]?=some v'->VR ρ v v'
def Ren.le (ρ a:Ren):Prop:=∀b r,ρ b=some r->a b=some r
def VR.mono {ρ e:Ren}(d:ρ.le e)(h:VR ρ v v'):VR e v v':=by
 induction h with
 |undef=>exact .undef
 |bool b=>exact .bool b
 |int k n=>exact .int k n
 |str l=>exact .str l
 |bq=>exact .bq
 |ptr b off r sz h=>exact .ptr b off r sz (d _ _ h)
 |ae=>exact .ae
 |slice b off len cap r sz h=>exact .slice b off len cap r sz (d _ _ h)
 |oI b off dC len cap ft grow r sz h hg hl hc ho hs=>exact .oI b off dC len cap ft grow r sz (d _ _ h) hg hl hc ho hs
 |fJ=>exact .fJ
 |map b r sz h=>exact .map b r sz (d _ _ h)
 |func fn f c f' c' hf hc h1 h2 j i=>exact .func fn f c f' c' hf hc j i
 |mL=>exact .mL
 |iface t v v' _ g=>exact .iface t v v' g
 |gz=>exact .gz
 |agg s l hl _ g=>exact .agg s l hl g
 |tuple s l hl _ g=>exact .tuple s l hl g
 |ir n m h=>exact .ir n m h
 |any v'=>exact .any v'
 |mr a=>exact .mr a
def eM.mono {ρ c:Ren}(d:ρ.le c)(h:eM ρ l l'):eM c l l':=
 ⟨h.len,λi v v' a b=>(h.at' i v v' a b).mono d⟩
def eM.nil (ρ:Ren):eM ρ [] []:=⟨rfl,λi v v' h=>aap⟩
def eM.cons {ρ:Ren}(h:VR ρ v v')(t:eM ρ l l'):eM ρ (v::l) (v'::l'):=
 ⟨by simp[t.len],λi x c a b=>by
  cases i with
  |zero=>simp at a b;subst a;subst b;exact h
  |succ i=>exact t.at' i x c adw aeQ⟩
def eM.inv {ρ:Ren}(h:eM ρ (v::l) l'):∃v' c,l'=v'::c/\VR ρ v v'/\eM ρ l c:=by
 cases l' with
 |nil=>have:=h.len;simp at this
 |cons v' c=>
  exact⟨v',c,rfl,h.at' 0 v v' rfl rfl,⟨by have:=h.len;simpa using this,λi x d a b=>h.at' (i+1) x d adw aeQ⟩⟩
def eM.app {ρ:Ren}{m:List CV}{m':List Value}(h:eM ρ l l')(t:eM ρ m m'):eM ρ (l++m) (l'++m'):=by
 induction l generalizing l' with
 |nil=>have:l'=[]:=by have:=h.len;simpa using this.symm
       subst this;exact t
 |cons v l a=>obtain⟨v',d,rfl,c,b⟩:=h.inv;exact eM.cons c (a b)
def eM.take {ρ:Ren}(h:eM ρ l l')(n:Nat):eM ρ (l.take n) (l'.take n):=
 ⟨by simp[h.len],λi v v' a b=>by
  rw[aJe]at a b
  split at a
  .rename_i hi;rw[aHP hi]at b;exact h.at' i v v' a b
  .cases a⟩
def eM.drop {ρ:Ren}(h:eM ρ l l')(n:Nat):eM ρ (l.drop n) (l'.drop n):=
 ⟨by simp[h.len],λi v v' a b=>by rw[aJA]at a b;exact h.at' _ v v' a b⟩
def eM.bytes (ρ:Ren)(l:List UInt8):eM ρ (l.map bP) (l.map λb:UInt8=>Value.int .u8 (b.toNat:Int)):=by
 induction l with
 |nil=>exact eM.nil ρ
 |cons a l c=>exact eM.cons (.int _ _) c
inductive BR (ρ:Ren):rU->Obj->Nat->Prop where
 |cells (s:List CV) (t:TypeId) (g:Bool) (c:Array Value) (lo hi:Nat) (hlen:s.length<=c.size)
  (hc:eM ρ (row s) (c.toList.take s.length)) (hf:∀k,k<c.size->¬(lo<=k/\k<hi)) (hg:g=false->∀k,¬(lo<=k/\k<hi)):BR ρ (.cells s t g) (.cells c t (lo,hi)) c.size
 |map (es:List (CV×CV×Nat)) (clock:Nat) (es':List MapEntry) (hl:es.length=es'.length)
  (h:∀(i:Nat) (e:CV×CV×Nat) (e':MapEntry),es[i]?=some e->es'[i]?=some e'->VR ρ e.1 e'.key/\VR ρ e.2.1 e'.val/\e.2.2=e'.born) (sz:Nat):
  BR ρ (.map es clock) (.map es'.toArray clock) sz
 |lmap (es l:List (CV×CV×Nat)) (clock:Nat) (es':List MapEntry) (hp:l.Perm es) (hi:∀e∈es,∃n:Int,e.1=.int .i64 n) (hn:(es.map (·.1)).Nodup) (hs:Go.MapKept.Stamped es'.toArray clock) (hl:l.length=es'.length)
  (h:∀(i:Nat) (e:CV×CV×Nat) (e':MapEntry),l[i]?=some e->es'[i]?=some e'->VR ρ e.1 e'.key/\VR ρ e.2.1 e'.val) (sz:Nat):BR ρ (.lmap es) (.map es'.toArray clock) sz
 |ro (s:List CV) (c:Array Value) (t:TypeId) (lo hi:Nat) (hlen:s.length<=c.size) (hc:eM ρ (row s) (c.toList.take s.length)):BR ρ (.ro s (.cells c t (lo,hi))) (.cells c t (lo,hi)) c.size
def BR.mono {ρ f:Ren}(d:ρ.le f){b:rU}{n:Nat}(h:BR ρ b o n):BR f b o n:=by
 cases h with
 |cells s t g c lo hi hlen hc hf hg=>exact .cells s t g c lo hi hlen (hc.mono d) hf hg
 |map es clock es' hl h=>
  exact .map es clock es' hl (λi e e' a b=>let ⟨x,y,z⟩:=h i e e' a b;⟨x.mono d,y.mono d,z⟩) _
 |lmap es l clock es' hp hi hn hs hl h=>exact .lmap es l clock es' hp hi hn hs hl (λi e e' a b=>let ⟨x,y⟩:=h i e e' a b;⟨x.mono d,y.mono d⟩) _
 |ro s c t lo hi hlen hc=>exact .ro s c t lo hi hlen (hc.mono d)
structure WR (ρ:Ren)(st:St)(w:World):Prop where
 at':∀b blk r sz,st.m.g b=some blk->ρ b=some (r,sz)->∃o,w.heap[r]?=some o/\BR ρ blk o sz
 inj:∀b b' blk fp r sz Pt,st.m.g b=some blk->st.m.g b'=some fp->ρ b=some (r,sz)->ρ b'=some (r,Pt)->b=b'
 fresh:∀b x,ρ b=some x->b<st.nx
structure bp (ρ:Ren)(st:St)(w:World)(ρ':Ren)(st':St)(w':World):Prop where
 wr:WR ρ' st' w'
 ext:ρ.le ρ'
 ME:∀b,b<st.nx->ρ b=none->ρ' b=none
 nx:st.nx<=st'.nx
 origin:∀b blk r sz,st'.m.g b=some blk->ρ' b=some (r,sz)->(∃b0 blk0 DZ,st.m.g b0=some blk0/\ρ b0=some (r,DZ))\/w.heap.size<=r
 kept:∀r:Nat,r<w.heap.size->(∀b blk sz,st.m.g b=some blk->ρ b≠some (r,sz))->w'.heap[r]?=w.heap[r]?
 size:w.heap.size<=w'.heap.size
 os:w'.os=w.os
 output:w'.output=w.output
def bp.refl {ρ:Ren}{st:St}{w:World}(h:WR ρ st w):bp ρ st w ρ st w:=
 ⟨h,λ_ _ h=>h,λ_ _ h=>h,aHK _,λb blk _ sz c a=>.inl ⟨b,blk,sz,c,a⟩,λ_ _ _=>rfl,aHK _,rfl,rfl⟩
def bp.trans {ρ ρ1 ρ2:Ren}{st hO vn:St}{w w1 w2:World}(a:bp ρ st w ρ1 hO w1)(b:bp ρ1 hO w1 ρ2 vn w2):
 bp ρ st w ρ2 vn w2 where
 wr:=b.wr
 ext:=λ_ _ h=>b.ext _ _ (a.ext _ _ h)
 ME:=λq hq h=>b.ME q (aId hq a.nx) (a.ME q hq h)
 nx:=aIz a.nx b.nx
 origin:=λx blk r sz h1 h2=>by
  rcases b.origin x blk r sz h1 h2 with⟨b0,blk0,DZ,h3,h4⟩|h3
  .exact a.origin b0 blk0 r DZ h3 h4
  .exact .inr (aIz a.size h3)
 kept:=λr hr hn=>by
  rw[b.kept r (aId hr a.size),a.kept r hr hn];intro x blk sz h1 h2;rcases a.origin x blk r sz h1 h2 with⟨b0,blk0,DZ,h3,h4⟩|h3
  .exact hn b0 blk0 DZ h3 h4
  .omega
 size:=aIz a.size b.size
 os:=b.os.trans a.os
 output:=b.output.trans a.output
def WR.Fj {ρ:Ren}{st:St}{w:World}(h:WR ρ st w)(e:w'.heap=w.heap):WR ρ st w':=
 ⟨λb blk r sz c a=>by rw[e];exact h.at' b blk r sz c a,h.inj,h.fresh⟩
def bp.draw {ρ:Ren}{st:St}{w:World}(h:WR ρ st w)(d:Nat):bp ρ st w ρ st {w with drawn:=d}:=
 ⟨h.Fj rfl,λ_ _ h=>h,λ_ _ h=>h,aHK _,λb blk _ sz c a=>.inl ⟨b,blk,sz,c,a⟩,λ_ _ _=>rfl,aHK _,rfl,rfl⟩
def Ren.set (ρ:Ren)(b:Nat)(x:Nat×Nat):Ren:=λq=>if b=q then some x else ρ q
def Ren.eI (ρ:Ren)(b:Nat)(x:Nat×Nat):ρ.set b x b=some x:=by simp[Ren.set]
def Ren.dy (ρ:Ren)(b q:Nat)(x:Nat×Nat)(h:q≠b):ρ.set b x q=ρ q:=by
 unfold Ren.set;rw[aHM];intro e;exact h (e.symm)
def St.new (st:St)(blk:rU):St:=⟨st.m.put st.nx (some blk),(st.nx+1)⟩
def bp.new {ρ:Ren}{st:St}{w:World}(h:WR ρ st w){blk:rU}(B:BR (ρ.set st.nx (w.heap.size,sz)) blk o sz):
 bp ρ st w (ρ.set st.nx (w.heap.size,sz)) (st.new blk) {w with heap:=w.heap.push o}/\ρ.set st.nx (w.heap.size,sz) st.nx=some (w.heap.size,sz):=by
 have gV:∀b x,ρ b=some x->b≠st.nx:=λb x y e=>by have:=h.fresh b x y;rw[e]at this;omega
 have n:ρ.le (ρ.set st.nx (w.heap.size,sz)):=λb _ hr=>acg
 have k:∀b blk r s,st.m.g b=some blk->ρ b=some (r,s)->r<w.heap.size:=λb blk r s c a=>by
  obtain⟨C,z,_⟩:=h.at' b blk r s c a;exact(aIy.1 z).1
 have d:∀b fp,b≠st.nx->(st.new blk).m.g b=some fp->st.m.g b=some fp:=λb fp B c=>by
  simpa[St.new,PT.du _ _ _ _ B]using c
 have A:∀b fp r s,(st.new blk).m.g b=some fp->ρ.set st.nx (w.heap.size,sz) b=some (r,s)->(∃D blk0 F,st.m.g D=some blk0/\ρ D=some (r,F))\/w.heap.size<=r:=λb fp r s c a=>by
  by_cases e:b=st.nx
  .subst e;rw[Ren.eI]at a;cases a;exact .inr (aHK _)
  .rw[Ren.dy _ _ _ _ e]at a;exact .inl ⟨b,fp,s,d b fp e c,a⟩
 have G:∀r:Nat,r<w.heap.size->(∀b blk sz,st.m.g b=some blk->ρ b≠some (r,sz))->(w.heap.push o)[r]?=w.heap[r]?:=λr hr _=>by
  rw[aKu,aHM uM]
 refine⟨⟨⟨λb fp r s c a=>?_,λb j p u r s s' c a i f=>?_,λb x y=>?_⟩,n,λq hq hn=>acr,?_,A,G,wb,rfl,rfl⟩,Ren.eI _ _ _⟩
 .by_cases e:b=st.nx
  .subst e;simp only[St.new,PT.dj,aJo]at c;subst c;rw[Ren.eI]at a;cases a;exact⟨o,wb,B⟩
  .rw[Ren.dy _ _ _ _ e]at a;obtain⟨C,z,E⟩:=h.at' b fp r s (d b fp e c) a;refine⟨C,?_,E.mono n⟩;have:=(aIy.1 z).1;rw[aKu,aHM uM];exact z
 .by_cases e:b=st.nx
  .by_cases e':j=st.nx
   .rw[e,e']
   .rw[e,Ren.eI]at i;cases i;rw[Ren.dy _ _ _ _ e']at f;have:=k j u _ _ (d j u e' a) f;omega
  .by_cases e':j=st.nx
   .rw[e',Ren.eI]at f;cases f;rw[Ren.dy _ _ _ _ e]at i;have:=k b p _ _ (d b p e c) i;omega
   .rw[Ren.dy _ _ _ _ e]at i;rw[Ren.dy _ _ _ _ e']at f;exact h.inj b j p u r s s' (d b p e c) (d j u e' a) i f
 .show b<(st.nx+1)
  by_cases e:b=st.nx
  .subst e;omega
  .rw[Ren.dy _ _ _ _ e]at y;have:=h.fresh b x y;omega
 .show st.nx<=(st.nx+1);omega
def St.set (st:St)(b:Nat)(blk:rU):St:=⟨st.m.put b (some blk),st.nx⟩
def bp.set {ρ:Ren}{st:St}{w:World}(h:WR ρ st w){b:Nat}{blk0 blk:rU}(h0:st.m.g b=some blk0)(hr:ρ b=some (r,sz))
 (ho:w'.heap[r]?=some o) (hb:BR ρ blk o sz) (hk:∀k,k≠r->w'.heap[k]?=w.heap[k]?) (hs:w'.heap.size=w.heap.size) (hos:w'.os=w.os) (QW:w'.output=w.output):
 bp ρ st w ρ (st.set b blk) w' where
 wr:={
  at':=λq fp r' s' h1 e1=>by
   by_cases e:q=b
   .subst e;simp only[St.set,PT.dj,aJo]at h1;subst h1;rw[hr]at e1;cases e1;exact⟨o,ho,hb⟩
   .simp only[St.set,PT.du _ _ _ _ e]at h1;obtain⟨o',e2,e3⟩:=h.at' q fp r' s' h1 e1;refine⟨o',?_,e3⟩;rw[hk r' (λe'=>e (h.inj q b fp blk0 r s' sz h1 h0 (by rw[e1,e']) hr))];exact e2
  inj:=λq q' ny mK r1 s1 s2 h1 h2 h3 h4=>by
   have g:∀q fp,(st.set b blk).m.g q=some fp->∃x,st.m.g q=some x:=λq fp hq=>by
    by_cases e:q=b
    .subst e;exact⟨_,h0⟩
    .simp only[St.set,PT.du _ _ _ _ e]at hq;exact⟨_,hq⟩
   obtain⟨x1,g1⟩:=g q ny h1;obtain⟨x2,g2⟩:=g q' mK h2;exact h.inj q q' x1 x2 r1 s1 s2 g1 g2 h3 h4
  fresh:=h.fresh}
 ext:=λ_ _ h=>h
 ME:=λ_ _ h=>h
 nx:=aHK _
 origin:=λq fp r1 s1 h1 h2=>by
  by_cases e:q=b
  .subst e;exact .inl ⟨q,blk0,s1,h0,h2⟩
  .simp only[St.set,PT.du _ _ _ _ e]at h1;exact .inl ⟨q,fp,s1,h1,h2⟩
 kept:=λk _ hn=>hk k (λe=>hn b blk0 sz h0 (by rw[hr,e]))
 size:=uM
 os:=hos
 output:=QW
def St.move (st:St)(b:Nat)(blk:rU):St:=⟨(st.m.put b none).put st.nx (some blk),(st.nx+1)⟩
def bp.move {ρ:Ren}{st:St}{w:World}(h:WR ρ st w){b:Nat}{blk0 blk:rU}(z:st.m.g b=some blk0)(n:ρ b=some (r,sz))
 (K:w'.heap[r]?=some o) (L:BR (ρ.set st.nx (r,sz)) blk o sz) (G:∀k,k≠r->w'.heap[k]?=w.heap[k]?) (R:w'.heap.size=w.heap.size) (E:w'.os=w.os) (O:w'.output=w.output):
 bp ρ st w (ρ.set st.nx (r,sz)) (st.move b blk) w':=by
 have H:∀q x,ρ q=some x->q≠st.nx:=λq x d e=>by have:=h.fresh q x d;rw[e]at this;omega
 have y:ρ.le (ρ.set st.nx (r,sz)):=λq x d=>by rw[Ren.dy _ _ _ _ (H q x d)];exact d
 have S:=H b _ n
 have j:∀q fp,q≠st.nx->(st.move b blk).m.g q=some fp->q≠b/\st.m.g q=some fp:=λq fp hq a=>by
  simp only[St.move,PT.du _ _ _ _ hq]at a
  by_cases e:q=b
  .subst e;rw[PT.dj]at a;cases a
  .rw[PT.du _ _ _ _ e]at a;exact⟨e,a⟩
 have F:∀q fp f s,(st.move b blk).m.g q=some fp->ρ.set st.nx (r,sz) q=some (f,s)->(∃I blk0 P,st.m.g I=some blk0/\ρ I=some (f,P))\/w.heap.size<=f:=λq fp f s a c=>by
  by_cases e:q=st.nx
  .subst e;rw[Ren.eI]at c;cases c;exact .inl ⟨b,blk0,sz,z,n⟩
  .rw[Ren.dy _ _ _ _ e]at c;obtain⟨_,a⟩:=j q fp e a;exact .inl ⟨q,fp,s,a,c⟩
 have Q:∀k:Nat,k<w.heap.size->(∀b blk sz,st.m.g b=some blk->ρ b≠some (k,sz))->w'.heap[k]?=w.heap[k]?:=λk _ hn=>G k (λe=>hn b blk0 sz z (by rw[n,e]));refine⟨⟨λq fp r' s' a B=>?_,λq i C D f s s' a c u p=>?_,λq x d=>?_⟩,y,λq hq hn=>acr,?_,F,Q,uM,E,O⟩
 .by_cases e:q=st.nx
  .subst e;simp only[St.move,PT.dj,aJo]at a;subst a;rw[Ren.eI]at B;cases B;exact⟨o,K,L⟩
  .obtain⟨A,a⟩:=j q fp e a;rw[Ren.dy _ _ _ _ e]at B;obtain⟨J,N,M⟩:=h.at' q fp r' s' a B;refine⟨J,?_,M.mono y⟩;rw[G r' (λe'=>A (h.inj q b fp blk0 r s' sz a z (by rw[B,e']) n))];exact N
 .by_cases e:q=st.nx
  .by_cases e':i=st.nx
   .rw[e,e']
   .rw[e,Ren.eI]at u;cases u;rw[Ren.dy _ _ _ _ e']at p;obtain⟨A,c⟩:=j i D e' c;exact absurd (h.inj i b D blk0 r s' sz c z p n) A
  .by_cases e':i=st.nx
   .rw[e',Ren.eI]at p;cases p;rw[Ren.dy _ _ _ _ e]at u;obtain⟨A,a⟩:=j q C e a;exact absurd (h.inj q b C blk0 r s sz a z u n) A
   .rw[Ren.dy _ _ _ _ e]at u;rw[Ren.dy _ _ _ _ e']at p;exact h.inj q i C D f s s' (j q C e a).2 (j i D e' c).2 u p
 .show q<(st.nx+1)
  by_cases e:q=st.nx
  .subst e;omega
  .rw[Ren.dy _ _ _ _ e]at d;have:=h.fresh q x d;omega
 .show st.nx<=(st.nx+1);omega
end
section
variable {v:CV}{ρ:Ren}{st:St}{s:List CV}{t:TypeId}{g:Bool}{r sz:Nat}{v':Value}{l:List Value}
def Hs (j k:IntKind):decide (j=k)=true↔j=k:=wb
abbrev zeq (x y:Int):Bool:=decide (x=y)
def zz (x y:Int):zeq x y=true↔x=y:=wb
def kD (a:BinOp)(k:IntKind)(x y:Int):Option Int:=
 match a with
 | .and=>some (k.wrap (BitVec.ofInt k.bits x&&&BitVec.ofInt k.bits y).toNat)
 | .or=>some (k.wrap (BitVec.ofInt k.bits x|||BitVec.ofInt k.bits y).toNat)
 | .xor=>some (k.wrap (BitVec.ofInt k.bits x^^^BitVec.ofInt k.bits y).toNat)
 | .andNot=>some (k.wrap (BitVec.ofInt k.bits x&&& ~~~BitVec.ofInt k.bits y).toNat)
 |_=>none
def yG (P:Program)(w:World)(a:BinOp)(k:IntKind)(x y r:Int)(h:kD a k x y=some r):
 (Op.intBits a k x y).run P w=.ok (.int k r) w:=by
 cases a<;>simp only[kD,aJo,reduceCtorEq]at h<;>subst h<;>rfl
def CV.isAny (v:CV):Bool:=match v with| .any=>true|_=>false
def CV.cK (v:CV):List CV:=
 match v with
 | .agg s=>s
 |v=>[v]
def GG (h:∀s,v≠ .agg s):v.cK=[v]:=by
 cases v<;>first|rfl|exact absurd rfl (h _)
def kZ (g o i:Nat):(⟨g,o,none⟩:Addr).add i=⟨g,o+i,none⟩:=by unfold Addr.add;split<;>simp_all
def eo (P:Program)(w:World)(r o n:Nat)(c:Array Value)(t:TypeId)(d:Nat×Nat)(h:w.heap[r]?=some (.cells c t d))(e:o+n<=c.size):
 (loadCells ⟨r,o,none⟩ n).run P w=.ok ((c.toList.drop o).take n).toArray w:=by
 have b:((c.toList.drop o).take n).length=n:=zS
 have:=run_loadCells_list (P:=P) w ⟨r,o,none⟩ ((c.toList.drop o).take n) (λj v a=>by
  rw[kZ];rw[aJe]at a
  split at a
  .rw[aJA]at a;simp only[World.cell?,h]
   simpa using a
  .cases a)
 rw[b]at this;exact this
def nV (P:Program)(w:World)(r o:Nat)(c:Array Value)(t:TypeId)(b:Nat×Nat)(v:Value)(h:w.heap[r]?=some (.cells c t b))(a:c.toList[o]?=some v):
 (load ⟨r,o,none⟩).run P w=.ok v w:=by
 have:w.cell? ⟨r,o,none⟩=some v:=by simp only[World.cell?,h];simpa using a
 rw[run_load,this]
def gP (P:Program)(g o:Nat)(t:TypeId)(lo hi:Nat):∀(a:List Value) (i:Nat) (cur:Array Value) (w:World),w.heap[g]?=some (.cells cur t (lo,hi))->
 (∀k,k<cur.size->¬(lo<=k/\k<hi))->o+i+a.length<=cur.size->(∀v∈a,v.oneCell'=true)->
 (storeCells ⟨g,o,none⟩ a i).run P w=.ok () (w.setRow g (cur.toList.take (o+i)++a++cur.toList.drop (o+i+a.length)).toArray)
 |[],i,cur,w,hg,_,_,_=>by
  simp only[storeCells,aIJ,aJB,aIv,aIA,aJp];rw[setRow_self w g cur t (lo,hi) hg]
  rfl
 |v::rest,i,cur,w,hg,b,hl,h1=>by
  have f:o+i<cur.size:=by simp at hl;omega
  have j:w.cell? ⟨g,o+i,none⟩=some cur[o+i]:=by simp[World.cell?,hg,f]
  have d:w.frozen? ⟨g,o+i,none⟩=false:=by
   have:=b (o+i) f;simp only[World.frozen?,hg,Bool.and_eq_false_iff,decide_eq_false_iff_not];omega
  have c:(store ((⟨g,o,none⟩:Addr).add i) v).run P w=.ok () (w.setRow g (cur.setIfInBounds (o+i) v)):=by
   rw[kZ,run_store P w _ v _ (h1 v wb),j];simp[d,setCell_eq_setRow w g (o+i) cur t (lo,hi) v hg]
  have m:=gP P g o t lo hi rest (i+1) (cur.setIfInBounds (o+i) v) (w.setRow g (cur.setIfInBounds (o+i) v)) (setRow_heap w g cur _ t _ hg)
   (by simpa using b) (by simp at hl⊢;omega) (λx hx=>h1 x aba)
  simp only[storeCells,Sem.run_bind,c,Result.andThen_ok,m,setRow_setRow]
  congr 3
  have e:=list_seg_step cur.toList (o+i) v rest (by simp at hl⊢;omega)
  simpa[Array.toList_setIfInBounds,Nat.add_assoc]using e
def nU (w:World)(g:Nat)(c:Array Value)(k:Nat)(h:k≠g):(w.setRow g c).heap[k]?=w.heap[k]?:=by
 unfold World.setRow;simp only[Array.getElem?_modify];rw[aHM (λe=>h e.symm)]
def pK (w:World)(g:Nat)(c:Array Value):(w.setRow g c).heap.size=w.heap.size:=by
 unfold World.setRow;simp
def WR.row {w:World}(h:WR ρ st w){b:Nat}(d:st.m.g b=some (.cells s t g))(a:ρ b=some (r,sz)):
 ∃c lo hi,w.heap[r]?=some (.cells c t (lo,hi))/\c.size=sz/\s.length<=sz/\eM ρ s (c.toList.take s.length)/\(∀k,k<c.size->¬(lo<=k/\k<hi)):=by
 obtain⟨o,f,e⟩:=h.at' b _ r sz d a;cases e with
 |cells _ _ _ c lo hi hlen hc hf hg=>exact⟨c,lo,hi,f,rfl,hlen,hc,hf⟩
def WR.PN {w:World}(h:WR ρ st w){b:Nat}{a:Obj}(e:st.m.g b=some (.ro s a))(d:ρ b=some (r,sz)):
 ∃c t lo hi,w.heap[r]?=some (.cells c t (lo,hi))/\c.size=sz/\s.length<=sz/\eM ρ s (c.toList.take s.length):=by
 obtain⟨o,i,f⟩:=h.at' b _ r sz e d;cases f with
 |ro _ c t lo hi hlen hc=>exact⟨c,t,lo,hi,i,rfl,hlen,hc⟩
def WR.YJ {w:World}(h:WR ρ st w){b:Nat}(f:st.m.g b=some (.cells s t g))(e:ρ b=some (r,sz)){c:Array Value}{lo hi:Nat}(d:w.heap[r]?=some (.cells c t (lo,hi))):g=false->∀k,¬(lo<=k/\k<hi):=by
 obtain⟨o,a,i⟩:=h.at' b _ r sz f e;rw[d]at a;cases a;cases i with
 |cells _ _ _ c lo hi hlen hc hf hg=>exact hg
def VR.cK (h:VR ρ v v')(d:v.isAny=false):eM ρ (v.cK) v'.cells.toList:=by
 by_cases c:∃s,v=.agg s
 .obtain⟨s,rfl⟩:=c;cases h with
  |agg s l hl h=>exact⟨by simpa[CV.cK,Value.cells]using hl,λi v v' a b=>h i v v' a (by simpa[Value.cells]using b)⟩
 .rw[GG (λs e=>c ⟨s,e⟩)];have:v'.cells= #[v']:=by cases h<;>first|rfl|(cases d;done)|exact absurd ⟨_,rfl⟩ c
  rw[this];exact eM.cons h (eM.nil ρ)
def VR.FH (h:eM ρ s l):VR ρ (.agg s) (.agg l.toArray):=.agg s l h.len h.at'
def VR.tuple' (h:eM ρ s l):VR ρ (.tuple s) (.tuple l.toArray):=.tuple s l h.len h.at'
def eM.get {l:List CV}{a:List Value}(h:eM ρ l a){i:Nat}(b:l[i]?=some v):∃v',a[i]?=some v'/\VR ρ v v':=by
 have hi:i<l.length:=by
  rcases aIX i l.length with h|h
  .exact h
  .simp[aIN h]at b
 have:=h.len▸hi;exact⟨a[i],wb,h.at' i v _ b wb⟩
def cF (v:CV):Bool:=match v with| .agg _| .tuple _| .undef| .any=>false|_=>true
def bh (s:List CV):Bool:=s.all cF
def nX (h:VR ρ v v')(a:cF v=true):v'.oneCell'=true:=by
 cases h<;>first|rfl|(simp[cF]at a)
def Dd {x:CV}(h:bh x.cK=true):x.isAny=false:=by
 cases x<;>first|rfl|(simp[bh,CV.cK,cF]at h)
def nW (s:List CV)(h:bh s=true):∀v∈s,cF v=true:=by simpa[bh]using h
def bp.write {P:Program}{w:World}(h:WR ρ st w){b:Nat}{t s':List CV}{ty:TypeId}{off:Nat}{a:List Value}
 (n:st.m.g b=some (.cells s ty g)) (j:ρ b=some (r,sz)) (B:dZ s off t=some s') (f:eM ρ t a) (C:bh t=true):
 ∃w',(storeCells ⟨r,off,none⟩ a).run P w=.ok () w'/\bp ρ st w ρ (st.set b (.cells s' ty g)) w':=by
 obtain⟨c,lo,hi,o,e2,H,x,e5⟩:=h.row n j;obtain⟨G,p⟩:=yL B;have d:a.length=t.length:=by rw[<-f.len]
 have y:∀v∈a,v.oneCell'=true:=λv D=>by
  obtain⟨i,F,rfl⟩:=aIM D;have:=f.len▸F;exact nX (f.at' i t[i] _ wb wb) (nW t C _ (aIc _))
 have z:=gP P r off ty lo hi a 0 c w o e5 uM y;refine⟨_,z,?_⟩
 have q:s'.length=s.length:=by
  have:=congrArg List.length (p);simp only[aHR,aHZ,aIl]at this;omega
 have A:=setRow_heap w r c (c.toList.take (off+0)++a++c.toList.drop (off+0+a.length)).toArray ty (lo,hi) o
 have qQ:(c.toList.take (off+0)++a++c.toList.drop (off+0+a.length)).toArray.size=sz:=by
  simp only[aKp,aHR,aHZ,aIl,aJK];omega
 refine bp.set h n j A ?_ (λk E=>nU w r _ k E) (pK w r _) rfl rfl;have u:=BR.cells (ρ:=ρ) s' ty g (c.toList.take (off+0)++a++c.toList.drop (off+0+a.length)).toArray lo hi (by rw[qQ,q];omega) ?_ acZ (h.YJ n j o)
 .rw[qQ]at u;exact u
 .have:=p;rw[q,this]
  have e:(c.toList.take (off+0)++a++c.toList.drop (off+0+a.length)).toArray.toList.take s.length=(c.toList.take s.length).take off++(a++(c.toList.take s.length).drop (off+t.length)):=by
   simp only[aIv,aIq,d];rw[aJJ,aJJ,aJc,aJc,Nat.min_comm off s.length,aHS (l:=a) zS];rw[aJF,aHZ,d,aJK (xs:=c),show s.length-min off c.size-t.length=s.length-(off+t.length) from uM]
  rw[e];exact(x.take off).app (f.app (x.drop _))
end
section
variable {tmps:Array Value}{v':Value}{c x:CV}{s:Sem Value}{l:List Value}{t:TypeId}{i:Nat}{x':Value}{n:Nat}{p:CV}{p':Value}
abbrev Fr:=PT CV
inductive eX where
 |tmp (p:Nat)
 |const (v:CV)
def fH (fr:Fr)(p:Nat):CV:=Option.rec .undef (λv=>v) (fr.g p)
def ev (fr:Fr)(x:eX):CV:=eX.rec (λp=>fH fr p) (λv=>v) x
def FR (ρ:Ren)(fr:Fr)(tmps:Array Value):Prop:=∀t,VR ρ (fH fr (t)) (tmps.getD t Go.undef)
def FR.mono {ρ a:Ren}(b:ρ.le a){fr:Fr}(h:FR ρ fr tmps):FR a fr tmps:=λt=>(h t).mono b
def mO (fr:Fr)(p:Nat)(v:CV):fH (fr.put p (some v)) p=v:=by unfold fH;rw[PT.dj]
def nf (fr:Fr)(p q:Nat)(x:Option CV)(h:q≠p):fH (fr.put p x) q=fH fr q:=by unfold fH;rw[PT.du _ _ _ _ h]
def FR.put {ρ:Ren}{fr:Fr}(h:FR ρ fr tmps){d:Nat}(b:d<tmps.size){v:CV}(a:VR ρ v v'):
 FR ρ (fr.put (d) (some v)) (tmps.setIfInBounds d v'):=by
 intro t
 by_cases e:t=d
 .subst e;rw[mO]
  simpa[b]using a
 .rw[nf _ _ _ _ (λe'=>e (e'))];have:(tmps.setIfInBounds d v').getD t Go.undef=tmps.getD t Go.undef:=by simp[aIU (aIG e)]
  rw[this];exact h t
def jQ (v:Value):Option CV:=
 match v with
 | .bool b=>some (.bool b)
 | .int k n=>some (.int k n)
 | .string s=>some (.str s.data.toList)
 | .pointer none=>some .bq
 | .slice none 0 0=>some .ae
 | .map none=>some .fJ
 | .func fn f c=>bE (Bool.and f.isEmpty c.isEmpty) (some (.func fn .nil .nil)) none
 | .nilFunc=>some .mL
 | .nilIface=>some .gz
 | .tuple c=>bE c.isEmpty (some .undef) none
 |_=>none
def VR.jQ {v:Value}(h:jQ v=some c)(ρ:Ren):VR ρ c v:=by
 unfold Lim.jQ at h
 split at h<;>try (cases h;done)
 .cases h;exact .bool _
 .cases h;exact .int _ _
 .cases h;rename_i s;have:=VR.str (ρ:=ρ) s.data.toList;rw[oo]at this;exact this
 .cases h;exact .bq
 .cases h;exact .ae
 .cases h;exact .fJ
 .rename_i fn f c;rw[aO]at h
  split at h
  .rename_i hc;cases h;simp only[aIf,Array.isEmpty_iff]at hc;rw[hc.1,hc.2];exact VR.func fn .nil .nil [] [] rfl rfl (λi v v' h=>aap) (λi v v' h=>aap)
  .cases h
 .cases h;exact .mL
 .cases h;exact .gz
 .rename_i c;rw[aO]at h
  split at h
  .rename_i hc;cases h;simp only[Array.isEmpty_iff]at hc;rw[hc];exact .undef
  .cases h
def ru (l:List Value):Option (List CV):=
 List.rec (some .nil) (λv _ r=>Option.rec none (λr=>Option.rec none (λc=>some (c.cK++r)) (jQ v)) r) l
def ofValue (v:Value):Option CV:=
 match v with
 | .agg cs=>Option.rec none (λs=>some (.agg s)) (ru cs.toList)
 |v=>jQ v
def EL {v:Value}(h:jQ v=some c):∀s,c≠ .agg s:=by
 intro s e;subst e;unfold jQ at h
 split at h<;>first|(cases h;done)|(rw[aO]at h;split at h<;>cases h)
def wM:∀(l:List Value) (s:List CV),ru l=some s->∀ρ,eM ρ s l:=by
 intro l
 induction l with
 |nil=>intro s h ρ;cases h;exact eM.nil ρ
 |cons v l b=>
  intro s h ρ;have e:ru (v::l)=Option.rec none (λr=>Option.rec none (λc=>some (c.cK++r)) (jQ v)) (ru l):=rfl;rw[e]at h;cases hl:ru l with
  |none=>rw[hl]at h;cases h
  |some r=>
   rw[hl]at h;cases a:jQ v with
   |none=>rw[a]at h;cases h
   |some c=>
    rw[a]at h;cases h;rw[GG (EL a)];exact eM.cons (VR.jQ a ρ) (b r hl ρ)
def VR.ofValue {v:Value}(h:ofValue v=some c)(ρ:Ren):VR ρ c v:=by
 unfold Lim.ofValue at h
 split at h
 .rename_i cs;cases hc:ru cs.toList with
  |none=>rw[hc]at h;cases h
  |some s=>
   rw[hc]at h;cases h;exact VR.FH (wM _ s hc ρ)
 .exact VR.jQ h ρ
def fh (x:Operand):Option eX:=
 match x with
 | .tmp t=>some (.tmp (t))
 | .const v=>Option.rec none (λc=>some (.const c)) (ofValue v)
 | .func f=>some (.const (.func (.func f) .nil .nil))
 | .global _=>none
def bB {x:Operand}{c:eX}(h:fh x=some c){ρ:Ren}{fr:Fr}{a:Act}(d:FR ρ fr a.tmps):VR ρ (ev fr c) (a.eval x):=by
 cases x with
 |tmp t=>cases h;exact d t
 |const v=>
  have e:fh (.const v)=Option.rec none (λc=>some (.const c)) (ofValue v):=rfl;rw[e]at h;cases b:ofValue v with
  |none=>rw[b]at h;cases h
  |some c'=>rw[b]at h;cases h;exact VR.ofValue b ρ
 |func f=>cases h;exact VR.func _ .nil .nil [] [] rfl rfl (λi v v' h=>aap) (λi v v' h=>aap)
 |global g=>cases h
inductive OR where
 |ok (v:CV) (st:St)
 |bad
def bH (P:Program)(s:Sem Value)(ρ:Ren)(st:St)(w:World)(v:CV)(st':St):Prop:=
 ∃v' w' a,s.run P w=.ok v' w'/\VR a v v'/\bp ρ st w a st' w'
def DP (P:Program)(s:Sem Unit)(ρ:Ren)(st:St)(w:World)(v:CV)(st':St):Prop:=
 ∃w' a,s.run P w=.ok () w'/\v=.undef/\bp ρ st w a st' w'
def KY (P:Program)(s:Sem Next)(ρ:Ren)(st:St)(w:World)(v:CV)(st':St):Prop:=
 ∃x v' w' a,s.run P w=.ok x w'/\(x=.value v'\/(x=.skip/\v'=Go.undef))/\VR a v v'/\bp ρ st w a st' w'
section
variable {P:Program} {ρ:Ren} {st st':St} {w:World} {v:CV}
def bH.still (a:WR ρ st w)(h:s.run P w=.ok v' w)(b:VR ρ v v'):bH P s ρ st w v st:=⟨v',w,ρ,h,b,bp.refl a⟩
def bH.iF (h:bH P s ρ st w v st'):KY P (do pure (Next.value (<-s))) ρ st w v st':=by
 obtain⟨v',w',a,h1,d,b⟩:=h;exact⟨.value v',v',w',a,ael,.inl rfl,d,b⟩
def DP.iF {s:Sem Unit}(h:DP P s ρ st w v st'):KY P (do s;pure Next.skip) ρ st w v st':=by
 obtain⟨w',a,h1,rfl,b⟩:=h;exact⟨.skip,Go.undef,w',a,ael,.inr ⟨rfl,rfl⟩,.undef,b⟩
def bk (c a b:CV)(st:St):OR:=match c with| .bool t=>bE t (.ok a st) (.ok b st)|_=>.bad
def G8 {a b:CV}{g e d:Value}(h:bk c a b st=.ok v st')(f:WR ρ st w)(j:VR ρ c g)(m:VR ρ a e)(k:VR ρ b d):
 KY P (do pure (Next.value (if<-asBool g then e else d))) ρ st w v st':=by
 unfold bk at h
 split at h
 .rename_i t;cases j;cases t with
  |true=>cases h;exact⟨_,e,w,ρ,by simp[asBool],.inl rfl,m,bp.refl f⟩
  |false=>cases h;exact⟨_,d,w,ρ,by simp[asBool],.inl rfl,k,bp.refl f⟩
 .cases h
def bp.newRow {s:List CV}(hw:WR ρ st w)(m:∀a,ρ.le a->eM a s l)(g:Bool):
 ∃a,(newRow t l.toArray).run P w=.ok ⟨w.heap.size,0,none⟩ {w with heap:=w.heap.push (.cells l.toArray t)}/\
  a st.nx=some (w.heap.size,l.length)/\bp ρ st w a (st.new (.cells s t g)) {w with heap:=w.heap.push (.cells l.toArray t)}:=by
 have gV:∀b x,ρ b=some x->b≠st.nx:=λb x hx e=>acb
 have f:ρ.le (ρ.set st.nx (w.heap.size,l.length)):=λb _ hr=>acg
 have j:=m _ f;have d:s.length=l.length:=by rw[j.len]
 have hb:=BR.cells (ρ:=ρ.set st.nx (w.heap.size,l.length)) s t g l.toArray 0 0 (by simp[d]) (by
  rw[d];simpa using j) uM (by intros;omega)
 have k:=bp.new hw (blk:=.cells s t g) (o:=.cells l.toArray t) (sz:=l.length) acJ;exact⟨_,rfl,k.2,k.1⟩
def dp (t:TypeId)(s:List CV)(st:St):OR:=.ok (.ptr st.nx 0) ⟨st.m.put st.nx (some (.cells s t false)),st.nx+1⟩
def LB (t:TypeId)(s:List CV)(st:St):dp t s st=.ok (.ptr st.nx 0) (st.new (.cells s t false)):=by
 rfl
def EI {z:List CV}{i:TypeInfo}{b:Value}(h:dp t z st=.ok v st')(g:WR ρ st w)(hi:P.info? t=some i)(f:i.zero=some b)
 (j:∀ρ,eM ρ z b.cells.toList):bH P (Instr.alloc t true (.tuple #[])) ρ st w v st':=by
 rw[LB]at h;cases h;obtain⟨a,e,k,d⟩:=bp.newRow (P:=P) (t:=t) g (λa _=>j a) false;rw[aJp]at e d;refine⟨.pointer (some ⟨w.heap.size,0,none⟩),_,a,?_,.ptr _ _ _ _ k,d⟩;simp[Instr.alloc,zeroValue,typeInfo,hi,f,newVar,e]
def JY (h:bE x.isAny .bad (dp t x.cK st)=.ok v st')(j:WR ρ st w)(g:VR ρ x x'):
 bH P (Instr.box t x') ρ st w v st':=by
 rw[aO]at h
 split at h
 .cases h
 rename_i b;rw[LB]at h;cases h;obtain⟨a,f,k,e⟩:=bp.newRow (P:=P) (t:=t) j (λa d=>(g.mono d).cK (by simpa using b)) false;rw[aJp]at f e;refine⟨.pointer (some ⟨w.heap.size,0,none⟩),_,a,?_,.ptr _ _ _ _ k,e⟩;simp[Instr.box,newVar,f]
def aA (p:CV)(st:St):OR:=
 match p with
 | .ptr b off=>(match st.m.g b with
   |some (.cells s _ _)=>Option.rec .bad (λv=>.ok v st) (s[off]?)
   |some (.ro s _)=>Option.rec .bad (λv=>.ok v st) (s[off]?)
   |_=>.bad)
 |_=>.bad
def aJ (n:Nat)(p:CV)(st:St):OR:=
 match p with
 | .ptr b off=>(match st.m.g b with
   |some (.cells s _ _)=>Option.rec .bad (λv=>.ok (.agg v) st) (gY s off n)
   |some (.ro s _)=>Option.rec .bad (λv=>.ok (.agg v) st) (gY s off n)
   |_=>.bad)
 |_=>.bad
def tO {s:List CV}(h:eM ρ s l){off:Nat}(a:s[off]?=some x):∃x',l[off]?=some x'/\VR ρ x x':=by
 exact h.get a
def wm {x:Value}(h:(l.take n)[i]?=some x):l[i]?=some x:=by
 rw[aJe]at h;split at h
 .exact h
 .cases h
def EB (h:aA p st=.ok v st')(a:WR ρ st w)(q:VR ρ p p')(o:(isAgg t).run P w=.ok false w):
 bH P (Instr.loadAt t p') ρ st w v st':=by
 unfold aA at h
 split at h
 .rename_i b off
  split at h
  .rename_i s d g hm;cases hx:s[off]? with
   |none=>rw[hx]at h;cases h
   |some x=>
    rw[hx]at h;cases h;cases q with
    |ptr _ _ r sz e=>
     obtain⟨c,lo,hi,m,y,u,k,z⟩:=a.row hm e;obtain⟨x',j,f⟩:=tO k hx;refine bH.still a ?_ f;simp[Instr.loadAt,Instr.sureAddr,loadVar,o,nV P w r off c d (lo,hi) x' m (wm j),-run_load]
  .rename_i s o0 hm;cases hx:s[off]? with
   |none=>rw[hx]at h;cases h
   |some x=>
    rw[hx]at h;cases h;cases q with
    |ptr _ _ r sz e=>
     obtain⟨c,d,lo,hi,m,y,u,k⟩:=a.PN hm e;obtain⟨x',j,f⟩:=tO k hx;refine bH.still a ?_ f;simp[Instr.loadAt,Instr.sureAddr,loadVar,o,nV P w r off c d (lo,hi) x' m (wm j),-run_load]
  .cases h
 .cases h
def EA (h:aJ n p st=.ok v st')(a:WR ρ st w)(q:VR ρ p p')(o:(isAgg t).run P w=.ok true w)
 (u:(Go.sizeOf t).run P w=.ok n w):bH P (Instr.loadAt t p') ρ st w v st':=by
 unfold aJ at h
 split at h
 .rename_i b off
  split at h
  .rename_i s d g hm;cases hx:gY s off n with
   |none=>rw[hx]at h;cases h
   |some x=>
    rw[hx]at h;cases h;cases q with
    |ptr _ _ r sz f=>
     obtain⟨c,lo,hi,m,A,z,k,B⟩:=a.row hm f;obtain⟨y,j⟩:=ko hx;refine bH.still a (v':=.agg ((c.toList.drop off).take n).toArray) ?_ (VR.FH ?_)
     .simp[Instr.loadAt,Instr.sureAddr,loadVar,o,u,eo P w r off n c d (lo,hi) m uM]
     .rw[show x=(s.drop off).take n from j]
      have e:(c.toList.drop off).take n=((c.toList.take s.length).drop off).take n:=by
       rw[aJF,aJc,aIC uM]
      rw[e];exact(k.drop off).take n
  .rename_i s o0 hm;cases hx:gY s off n with
   |none=>rw[hx]at h;cases h
   |some x=>
    rw[hx]at h;cases h;cases q with
    |ptr _ _ r sz f=>
     obtain⟨c,d,lo,hi,m,A,z,k⟩:=a.PN hm f;obtain⟨y,j⟩:=ko hx;refine bH.still a (v':=.agg ((c.toList.drop off).take n).toArray) ?_ (VR.FH ?_)
     .simp[Instr.loadAt,Instr.sureAddr,loadVar,o,u,eo P w r off n c d (lo,hi) m uM]
     .rw[show x=(s.drop off).take n from j]
      have e:(c.toList.drop off).take n=((c.toList.take s.length).drop off).take n:=by
       rw[aJF,aJc,aIC uM]
      rw[e];exact(k.drop off).take n
  .cases h
 .cases h
def aQ (n:Nat)(p x:CV)(st:St):OR:=
 match p with
 | .ptr b off=>(match st.m.g b with
   |some (.cells s t g)=>(λxs=>bE (Bool.and (Nat.beq xs.length n) (bh xs)) (Option.rec .bad (λs'=>.ok .undef ⟨st.m.put b (some (.cells s' t g)),st.nx⟩) (dZ s off xs)) .bad) x.cK
   |_=>.bad)
 |_=>.bad
def Ex (h:aQ n p x st=.ok v st')(d:WR ρ st w)(f:VR ρ p p')(a:VR ρ x x')
 (j:(Go.sizeOf t).run P w=.ok n w):DP P (Instr.storeAt t p' x') ρ st w v st':=by
 unfold aQ at h
 split at h
 .rename_i b off
  split at h
  .rename_i s q g hm;simp only[aO,aIf,aIs]at h
   split at h
   .rename_i hc;cases hs:dZ s off x.cK with
    |none=>rw[hs]at h;cases h
    |some s'=>
     rw[hs]at h;cases h;cases f with
     |ptr _ _ r sz e=>
      obtain⟨w',o,m⟩:=bp.write (P:=P) d hm e hs (a.cK (Dd hc.2)) hc.2;refine⟨w',ρ,?_,rfl,m⟩;have k:x'.cells.size=n:=by have:=(a.cK (Dd hc.2)).len;rw[hc.1]at this;simpa using this.symm
      simp[Instr.storeAt,Instr.sureAddr,storeVar,j,k,o]
   .cases h
  .cases h
 .cases h
def dJ (x:CV)(st:St):OR:=match x with| .ptr .. | .iface .. | .func (.func _) _ _=>.ok x st|_=>.bad
def JU (h:dJ x st=.ok v st')(e:WR ρ st w)(b:VR ρ x x'){o:Oper}{y:Operand}{f:Operand->Value}(k:o.op=.nilCheck y)(d:f y=x'):
 KY P (execOp f o) ρ st w v st':=by
 unfold dJ at h
 have a:∀{z:Value},f y=z->(match z with| .pointer none| .nilIface| .nilFunc| .func (.method _) _ _=>False|_=>True)->(execOp f o).run P w=.ok (.value z) w:=by
  intro z j m;unfold execOp;rw[k];simp only[j]
  split<;>first|(exact m.elim)|rfl
 split at h
 .cases h;cases b with|ptr _ _ _ _ g=>exact⟨_,_,w,ρ,a d trivial,.inl rfl,.ptr _ _ _ _ g,bp.refl e⟩
 .cases h;cases b with|iface _ _ _ g=>exact⟨_,_,w,ρ,a d trivial,.inl rfl,.iface _ _ _ g,bp.refl e⟩
 .cases h;have q:=b;cases b with|func _ _ _ f' c' hf hc h1 h2=>exact⟨_,_,w,ρ,a d trivial,.inl rfl,q,bp.refl e⟩
 .cases h
def aB (x:CV)(i:Nat)(st:St):OR:=match x with| .tuple s=>Option.rec .bad (λv=>.ok v st) (s[i]?)|_=>.bad
def AD (h:aB x i st=.ok v st')(b:WR ρ st w)(a:VR ρ x x'):bH P (Instr.extract x' i) ρ st w v st':=by
 unfold aB at h
 split at h
 .rename_i s;cases hs:s[i]? with
  |none=>rw[hs]at h;cases h
  |some y=>
   rw[hs]at h;cases h;cases a with
   |tuple _ l hl hh=>
    obtain⟨y',e,d⟩:=tO (ρ:=ρ) (s:=s) ⟨hl,hh⟩ hs;refine bH.still b ?_ d;simp[Instr.extract,e]
 .cases h
end
end
section
variable {s:List CV}{l:List Value}{t:TypeId}{i:TypeInfo}{u:TypeDesc}{n:Nat}{s2:List CV}{l2:List Value}
mutual
inductive kK where
 |bool|int|str|ptr|iface|slice|map|func
 |bytes (len:Nat)
 |struct (fs:Yp)
 |array (len size:Nat) (agg:Bool) (e:kK)
inductive Yp where
 |nil
 |cons (off size:Nat) (agg:Bool) (d:kK) (r:Yp)
end
def TV (v:CV):Option UInt8:=match v with| .int .u8 (.ofNat n)=>if n<256 then some (.ofNat n)else none|_=>none
def I3:List CV->Option (List UInt8)
 |[]=>some []
 |v::r=>match TV v,I3 r with|some b,some l=>some (b::l)|_,_=>none
def Jj (b:UInt8):TV (bP b)=some b:=by
 have h:b.toNat<256:=b.toNat_lt;show(if b.toNat<256 then some (UInt8.ofNat b.toNat)else none)=some b;rw[aHP h];simp
def DT (l:List UInt8):I3 (l.map bP)=some l:=by
 induction l with
 |nil=>rfl
 |cons b l a=>simp[I3,Jj,a]
def MV {v:CV}{b:UInt8}(h:TV v=some b):v=bP b:=by
 unfold TV at h
 split at h
 .rename_i n
  split at h
  .rename_i hn;cases h;show CV.int .u8 (.ofNat n)=.int .u8 (.ofNat (UInt8.ofNat n).toNat);rw[aKe,aJC uM]
  .cases h
 .cases h
def wk:∀{s:List CV} {l:List UInt8},I3 s=some l->s=l.map bP:=by
 intro s
 induction s with
 |nil=>intro l h;cases h;rfl
 |cons v r a=>
  intro l h;simp only[I3]at h
  split at h
  .rename_i b l' h1 h2;cases h;rw[aIt,MV h1,<-a h2]
  .cases h
def iY (a:Bool)(off size:Nat)(s:List CV):Option CV:=
 bE a (Option.rec none (λt=>some (.agg t)) (gY s off size)) (s[off]?)
def andThen (a:Option Bool)(b:Option Bool):Option Bool:=Option.rec none (λt=>bE t b (some false)) a
mutual
def mJ:kK->CV->CV->Option Bool
 | .bool,x,y=>(match x,y with| .bool a,.bool b=>some (a==b)|_,_=>none)
 | .int,x,y=>(match x,y with| .int j a,.int k b=>bE (decide (j=k)) (some (decide (a=b))) none|_,_=>none)
 | .str,x,y=>(match x,y with| .str a,.str b=>some (a==b)|_,_=>none)
 | .ptr,x,y=>(match x,y with
   | .bq,.bq=>some true
   | .bq,.ptr _ _=>some false
   | .ptr _ _,.bq=>some false
   | .ptr b o,.ptr b' c=>bE (decide (b=b')) (some (Nat.beq o c)) none
   |_,_=>none)
 | .iface,x,y=>(match x,y with
   | .gz,.gz=>some true
   | .gz,.iface _ _=>some false
   | .iface _ _,.gz=>some false
   |_,_=>none)
 | .slice,x,y=>(match x,y with
   | .ae,.ae=>some true
   | .ae,.slice .. =>some false
   | .slice ..,.ae=>some false
   |_,_=>none)
 | .map,x,y=>(match x,y with
   | .fJ,.fJ=>some true
   | .fJ,.map _=>some false
   | .map _,.fJ=>some false
   |_,_=>none)
 | .func,x,y=>(match x,y with
   | .mL,.mL=>some true
   | .mL,.func .. =>some false
   | .func ..,.mL=>some false
   |_,_=>none)
 | .bytes len,x,y=>(match x,y with
   | .agg s,.agg t=>(match I3 s,I3 t with|some a,some b=>bE (decide (a.length=len)&&decide (b.length=len)) (some (a==b)) none|_,_=>none)
   |_,_=>none)
 | .struct fs,x,y=>(match x,y with| .agg s,.agg t=>Bq fs s t|_,_=>none)
 | .array len size agg e,x,y=>(match x,y with
   | .agg s,.agg t=>Nat.rec (motive:=λ_=>Nat->Option Bool) (λ_=>some true)
    (λ_ d off=>Option.rec none (λa=>Option.rec none (λb=>andThen (mJ e a b) (d (Nat.add off size))) (iY agg off size t)) (iY agg off size s)) len 0
   |_,_=>none)
def Bq:Yp->List CV->List CV->Option Bool
 | .nil,_,_=>some true
 | .cons off size agg d r,s,t=>Option.rec none (λa=>Option.rec none (λb=>andThen (mJ d a b) (Bq r s t)) (iY agg off size t)) (iY agg off size s)
end
def iO (u:TypeDesc):Bool:=match u with| .struct _| .array _ _=>true|_=>false
def pU (P:Program)(a:TypeId->Option kK)(b:List Field):Option Yp:=
 match b with
 |[]=>some .nil
 |f::r=>
  match decide (f.name= "_"),P.info? f.type,(P.underlying f.type),a f.type,pU P a r with
  |false,some i,some u,some d,some r=>some (.cons f.offset i.size (iO u) d r)
  |_,_,_,_,_=>none
def fW (P:Program):Nat->TypeId->Option kK
 |0,_=>none
 |n+1,t=>
  match P.underlying t with
  |some .bool=>some .bool
  |some (.int _)=>some .int
  |some .string=>some .str
  |some (.pointer e)=>(match P.info? e with|some i=>bE (Nat.beq i.size 0) none (some .ptr)|none=>none)
  |some (.interface _)=>some .iface
  |some (.slice _)=>some .slice
  |some (.map _ _)=>some .map
  |some (.func _ _ _)=>some .func
  |some (.struct fs)=>bE (P.stoodInHeld t) none (match pU P (fW P n) fs.toList with|some l=>some (.struct l)|none=>none)
  |some (.array len e)=>
   (match P.info? e,P.underlying e with
   |some i,some (.int .u8)=>bE (Nat.beq i.size 1) (some (.bytes len)) none
   |some i,some u=>(match fW P n e with|some d=>some (.array len i.size (iO u) d)|none=>none)
   |_,_=>none)
  |_=>none
section
variable {P:Program} {ρ:Ren} {w:World}
def iX {a:Bool}{off size:Nat}{x:CV}(h:iY a off size s=some x)(c:eM ρ s l)
 (hi:P.info? t=some i) (j:i.size=size) (g:P.underlying t=some u) (k:(iO u)=a):
 ∃x',(part t l.toArray off).run P w=.ok x' w/\VR ρ x x':=by
 have d:(isAgg t).run P w=.ok a w:=by
  subst k;cases u<;>simp[isAgg,aHU g,iO]
 unfold iY at h;rw[aO]at h
 split at h
 .rename_i hb;cases he:gY s off size with
  |none=>rw[he]at h;cases h
  |some y=>
   rw[he]at h;cases h;obtain⟨e,b⟩:=ko he;refine⟨.agg ((l.drop off).take size).toArray,?_,VR.FH ?_⟩
   .simp[part,d,hb,Go.sizeOf,typeInfo,hi,j]
   .rw[show y=(s.drop off).take size from b];exact(c.drop off).take size
 .rename_i hb;obtain⟨x',e,b⟩:=tO c h;have f:a=false:=by simpa using hb
  exact⟨x',by simp[part,d,f,e],b⟩
def VR.uk {l:List UInt8}{b:Value}(h:VR ρ (.agg (l.map bP)) b):b=.agg (l.map Extern.Stop.cell).toArray:=by
 cases h with
 |agg s m hl hh=>
  congr 2
  apply aJR;intro i;simp only[aIx]at hl
  by_cases hi:i<l.length
  .have h2:=hh i _ m[i] (by rw[aIu,aHO hi];rfl) wb;cases a:m[i]with
   |int k q=>
    rw[a]at h2;cases h2;rw[aIu,aHO hi,aHO uM,a];rfl
   |_=>rw[a]at h2;cases h2
  .rw[aIN uM,aIN zS]
def FL (P:Program)(w:World)(ρ:Ren)(d:kK)(t:TypeId)(n:Nat):Prop:=
 ∀(x y:CV) (x' y':Value) (b:Bool),mJ d x y=some b->VR ρ x x'->VR ρ y y'->(Op.equalIn n t x' y').run P w=.ok b w
def KP (len size:Nat)(c:Bool)(e:kK)(hi:P.info? t=some i)(m:i.size=size)(k:P.underlying t=some u)
 (o:(iO u)=c) (C:FL P w ρ e t n)   (E:eM ρ s l) (D:eM ρ (row s2) l2):
 ∀(j:Nat) (b:Bool),Nat.rec (motive:=λ_=>Nat->Option Bool) (λ_=>some true)
  (λ_ d off=>Option.rec none (λa=>Option.rec none (λb=>andThen (mJ e a b) (d (Nat.add off size))) (iY c off size s2)) (iY c off size s)) len (j*size)=some b->
  (Op.eqItems n t size l.toArray l2.toArray (List.range' j len)).run P w=.ok b w:=by
 induction len with
 |zero=>intro j b h;cases h;simp[Op.eqItems]
 |succ len d=>
  intro j b h;rw[List.range'_succ];simp only at h;cases hx:iY c (j*size) size s with
  |none=>rw[hx]at h;cases h
  |some x=>
   cases f:iY c (j*size) size s2 with
   |none=>rw[hx,f]at h;cases h
   |some y=>
    rw[hx,f]at h;simp only at h;cases g:mJ e x y with
    |none=>rw[g]at h;cases h
    |some q=>
     rw[g]at h;obtain⟨p,A,v⟩:=iX (P:=P) (w:=w) hx E hi m k o;obtain⟨y',z,r⟩:=iX (P:=P) (w:=w) f D hi m k o;have B:=C x y p y' q g v r;simp only[Op.eqItems,Sem.run_bind,A,z,B,Result.andThen_ok];cases q with
     |false=>cases h;simp
     |true=>
      have:=d (j+1) b (by rw[aIV,aJV];exact h)
      simpa using this
def KO {c:TypeId->Option kK}(D:∀t d,c t=some d->FL P w ρ d t n)(F:eM ρ s l)(E:eM ρ (row s2) l2):
 ∀(e:List Field) (r:Yp) (b:Bool),pU P c e=some r->Bq r s s2=some b->(Op.eqFields n l.toArray l2.toArray e).run P w=.ok b w:=by
 intro e
 induction e with
 |nil=>intro r b h a;cases h;simp only[Bq,aJo]at a;subst a;simp[Op.eqFields]
 |cons f e B=>
  intro r b h a;simp only[pU]at h
  split at h
  .rename_i i u d r' G hi hu hd C;cases h;have k:f.name≠ "_" :=by simpa using G
   simp only[Bq]at a;cases hx:iY (iO u) f.offset i.size s with
   |none=>rw[hx]at a;cases a
   |some x=>
    cases g:iY (iO u) f.offset i.size s2 with
    |none=>rw[hx,g]at a;cases a
    |some y=>
     rw[hx,g]at a;simp only at a;cases j:mJ d x y with
     |none=>rw[j]at a;cases a
     |some q=>
      rw[j]at a;obtain⟨m,z,p⟩:=iX (P:=P) (w:=w) hx F hi rfl hu rfl;obtain⟨y',v,o⟩:=iX (P:=P) (w:=w) g E hi rfl hu rfl;have A:=D f.type d hd x y m y' q j p o;simp only[Op.eqFields,k,ne_eq,not_false_eq_true,aIj,Sem.run_bind,z,v,A,Result.andThen_ok];cases q with
      |false=>cases a;simp
      |true=>simpa using B r' b C a
  .cases h
def Sf:∀(f:Nat) (t:TypeId) (d:kK),fW P f t=some d->∀n,f<n->FL P w ρ d t n:=by
 intro f
 induction f with
 |zero=>intro t d h;cases h
 |succ f H=>
  intro t d h n hn x y Y y' b hb j g;obtain⟨m,rfl⟩:∃m,n=m+1:=⟨n-1,uM⟩;simp only[fW]at h
  split at h
  ·
    rename_i c;cases h;simp only[mJ]at hb
    split at hb
    .cases j;cases g;cases hb;rename_i a b;rw[run_equalIn_bool' w m t a b c]
    .cases hb
  .rename_i k c;cases h;simp only[mJ]at hb
   split at hb
   .rw[aO]at hb
    split at hb
    .rename_i I;rw[Hs]at I;subst I;cases j;cases g;cases hb;rw[run_equalIn_int w m t _ _ _ _ c];rfl
    .cases hb
   .cases hb
  .rename_i c;cases h;simp only[mJ]at hb
   split at hb
   .cases j;cases g;cases hb;rename_i a b;rw[run_equalIn_string w m t _ _ c]
    congr 1
    rw[aJH,beq_iff_eq,beq_iff_eq,ByteArray.toList_eq,ByteArray.toList_eq];simp[gF]
   .cases hb
  .rename_i e c
   split at h
   .rename_i i hi;rw[aO]at h
    split at h
    .cases h
    .rename_i Q;cases h;have A:i.size≠0:=by simpa using Q
     have R:(Go.sizeOf e).run P w=.ok i.size w:=ada
     simp only[mJ]at hb
     split at hb
     .cases j;cases g;cases hb;simp[Op.equalIn,aHU c]
     .cases j;cases g;cases hb;simp[Op.equalIn,aHU c]
     .cases j;cases g;cases hb;simp[Op.equalIn,aHU c]
     .rename_i b1 o1 W o2;rw[aO]at hb
      split at hb
      .rename_i p;simp only[aIP]at p;subst p
       cases j with|ptr _ _ r sz S=>cases g with|ptr _ _ r2 L J=>
        rw[S]at J;cases J;cases hb
        have e:((⟨r,o1,none⟩:Addr)==⟨r,o2,none⟩)=Nat.beq o1 o2:=by
         rw[aJH,beq_iff_eq,aIs];simp
        simp[Op.equalIn,aHU c,R,A,sameAddr,e]
      .cases hb
     .cases hb
   .cases h
  .rename_i ms c;cases h;simp only[mJ]at hb
   split at hb
   .cases j;cases g;cases hb;simp[Op.equalIn,aHU c]
   .cases j;cases g;cases hb;simp[Op.equalIn,aHU c]
   .cases j;cases g;cases hb;simp[Op.equalIn,aHU c]
   .cases hb
  .rename_i e c;cases h;simp only[mJ]at hb
   split at hb
   .cases j;cases g;cases hb;simp[Op.equalIn,aHU c]
   .cases j;cases g<;>cases hb<;>simp[Op.equalIn,aHU c]
   .cases g;cases j<;>cases hb<;>simp[Op.equalIn,aHU c]
   .cases hb
  .rename_i k e c;cases h;simp only[mJ]at hb
   split at hb
   .cases j;cases g;cases hb;simp[Op.equalIn,aHU c]
   .cases j;cases g;cases hb;simp[Op.equalIn,aHU c]
   .cases j;cases g;cases hb;simp[Op.equalIn,aHU c]
   .cases hb
  .rename_i ps rs Z c;cases h;simp only[mJ]at hb
   split at hb
   .cases j;cases g;cases hb;simp[Op.equalIn,aHU c]
   .cases j;cases g;cases hb;simp[Op.equalIn,aHU c]
   .cases j;cases g;cases hb;simp[Op.equalIn,aHU c]
   .cases hb
  ·
    rename_i fs c;rw[aO]at h
    split at h
    .cases h
    .rename_i B;have D:P.stoodInHeld t=false:=by simpa using B
     split at h
     .rename_i l hl;cases h;simp only[mJ]at hb
      split at hb
      .rename_i s1 s2
       cases j with|agg _ l1 z E=>cases g with|agg _ l2 G o=>
        have q:P.fieldsOf t=fs:=by simp[Program.fieldsOf,c]
        rw[run_equalIn_agg w m t _ _ (by rw[q];exact c) D,q];exact KO (λK v C=>H K v C m uM) ⟨z,E⟩ ⟨G,o⟩ fs.toList l b hl hb
      .cases hb
     .cases h
  ·
    rename_i len e c
    split at h
    .rename_i i hi F;rw[aO]at h
     split at h
     .rename_i h1;rw[aIs]at h1;cases h;simp only[mJ]at hb
      split at hb
      .rename_i s1 s2
       split at hb
       .rename_i a W T X;rw[aO]at hb
        split at hb
        .rename_i p;simp only[aIf,aIP]at p;obtain⟨O,N⟩:=p;cases hb;have V:=wk T;have U:=wk X;subst V;subst U;rw[j.uk,g.uk];obtain⟨m',rfl⟩:∃m',m=m'+1:=⟨m-1,uM⟩;rw[run_equalIn_bytes w m' t e _ c F (λw=>by simp[Go.sizeOf,typeInfo,hi,h1]) _ _ O N]
        .cases hb
       .cases hb
      .cases hb
     .cases h
    .rename_i i u gV hi F
     split at h
     .rename_i v C;cases h;simp only[mJ]at hb
      split at hb
      .rename_i s1 s2
       cases j with|agg _ l1 z E=>cases g with|agg _ l2 G o=>
        rw[run_equalIn_array w m _ _ c hi,List.range_eq_range'];have M:P.cellsOf e=i.size:=by simp[Program.cellsOf,hi]
        rw[M];have:=KP (P:=P) (w:=w) (ρ:=ρ) len i.size _ v hi rfl F rfl (H e v C m uM) (s:=s1) (s2:=s2) (l:=l1) (l2:=l2) ⟨z,E⟩ ⟨G,o⟩ 0 b acJ;exact this
      .cases hb
     .cases h
    .cases h
  .cases h
end
end
section
variable {op:BinOp}{t:TypeId}{X Y:Operand}{x y:CV}{x':Value}
abbrev zn (k:IntKind)(st:St)(r:Nat):OR:=.ok (.int k (r:Int)) st
def mm (op:BinOp)(k:IntKind)(a b:Int)(st:St):OR:=
 match op with
 | .add=>.ok (.int k (k.wrap (a+b))) st
 | .sub=>.ok (.int k (k.wrap (a-b))) st
 | .mul=>.ok (.int k (k.wrap (a*b))) st
 | .quo=>if b=0 then .bad else .ok (.int k (k.wrap (Int.tdiv a b))) st
 | .rem=>if b=0 then .bad else .ok (.int k (Int.tmod a b)) st
 | .eql=>.ok (.bool (decide (a=b))) st
 | .neq=>.ok (.bool (!decide (a=b))) st
 | .lss=>.ok (.bool (decide (a<b))) st
 | .leq=>.ok (.bool (decide (a<=b))) st
 | .gtr=>.ok (.bool (decide (b<a))) st
 | .geq=>.ok (.bool (decide (b<=a))) st
 | .shl| .shr=>.bad
 |op=>(match kD op k a b with|some r=>.ok (.int k r) st|none=>.bad)
def ki (op:BinOp)(k:IntKind)(a:Int)(j:IntKind)(b:Int)(st:St):OR:=
 match op with
 | .shl=>if b<0 then .bad else .ok (.int k (k.wrap (a*2^(min b.toNat k.bits)))) st
 | .shr=>if b<0 then .bad else .ok (.int k (a.fdiv (2^(min b.toNat k.bits)))) st
 |op=>if k=j then mm op k a b st else .bad
section
variable {P:Program} {ρ:Ren} {st st':St} {w:World} {v:CV}
def Ak (op:BinOp)(t:TypeId)(k:IntKind)(a b r:Int)(c:op=.and\/op=.or\/op=.xor\/op=.andNot)(h:kD op k a b=some r):
 (binOp op t (.int k a) (.int k b)).run P w=.ok (.int k r) w:=by
 have:=yG P w op k a b r h;rcases c with rfl|rfl|rfl|rfl<;>simpa[binOp]using this
def JW {k j:IntKind}{a b:Int}(h:ki op k a j b st=.ok v st')(g:WR ρ st w):
 bH P (binOp op t (.int k a) (.int j b)) ρ st w v st':=by
 have c:∀{s:Sem Value} {r:Int},s.run P w=.ok (.int k r) w->bH P s ρ st w (.int k r) st:=λe=>bH.still g e (.int _ _);have d:∀{s:Sem Value} {r:Bool},s.run P w=.ok (.bool r) w->bH P s ρ st w (.bool r) st:=λe=>bH.still g e (.bool _);unfold ki at h
 split at h
 .split at h
  .cases h
  .rename_i hb;cases h;refine c ?_;simp[binOp,Op.shift,hb]
 .split at h
  .cases h
  .rename_i hb;cases h;refine c ?_;simp[binOp,Op.shift,hb]
 .rename_i m l
  split at h
  .rename_i i;subst i;unfold mm at h
   split at h
   .cases h;exact c acQ
   .cases h;exact c acQ
   .cases h;exact c acQ
   .split at h
    .cases h
    .rename_i f;cases h;exact c (by simp[binOp,Op.intDiv,f])
   .split at h
    .cases h
    .rename_i f;cases h;exact c (by simp[binOp,Op.intDiv,f])
   .cases h;exact d (by simp[binOp,Op.intCmp];rfl)
   .cases h;exact d (by simp[binOp,Op.intCmp,bne];rfl)
   .cases h;exact d (by simp only[binOp,Op.intCmp];first|rfl|(simp;done))
   .cases h;exact d (by simp only[binOp,Op.intCmp];first|rfl|(simp;done))
   .cases h;exact d (by simp only[binOp,Op.intCmp];first|rfl|(simp;done))
   .cases h;exact d (by simp only[binOp,Op.intCmp];first|rfl|(simp;done))
   .cases h
   .cases h
   .split at h
    .rename_i r e;cases h;refine c (Ak _ t k a b r ?_ e);cases op<;>simp_all[kD]
    .cases h
  .cases h
def sv (op:BinOp)(a b:List UInt8)(st:St):OR:=
 match op with
 | .add=>if a.length+b.length<=9223372036854775807 then .ok (.str (a++b)) st else .bad
 | .eql=>.ok (.bool (a==b)) st
 | .neq=>.ok (.bool (!(a==b))) st
 | .lss=>.ok (.bool (Op.bytesLess a b)) st
 | .leq=>.ok (.bool (Op.bytesLess a b||(a==b))) st
 | .gtr=>.ok (.bool (!(Op.bytesLess a b||(a==b)))) st
 | .geq=>.ok (.bool (!(Op.bytesLess a b))) st
 |_=>.bad
def Gm (a b:List UInt8):gF a++gF b=gF (a++b):=by
 apply ByteArray.ext;show(_:ByteArray).data=_;simp[gF,ByteArray.data_append]
def lu (a:List UInt8):(gF a).toList=a:=by rw[ByteArray.toList_eq];simp[gF]
def JT {a b:List UInt8}(h:sv op a b st=.ok v st')(d:WR ρ st w):
 bH P (binOp op t (.string (gF a)) (.string (gF b))) ρ st w v st':=by
 have c:∀{s:Sem Value} {r:Bool},s.run P w=.ok (.bool r) w->bH P s ρ st w (.bool r) st:=λe=>bH.still d e (.bool _);unfold sv at h
 split at h
 .split at h
  .rename_i hle;cases h;refine bH.still d (v':=.string (gF a++gF b)) ?_ (by rw[Gm];exact .str _);have f:IntKind.i64.max=9223372036854775807:=by decide
   have:¬((((gF a).size+(gF b).size:Nat):Int)>IntKind.i64.max):=by
    rw[lz,lz,f];omega
   simp only[binOp,Op.stringOp];rw[aHM this];rfl
  .cases h
 .cases h;exact c aaq
 .cases h;exact c aaq
 .cases h;exact c aaq
 .cases h;exact c aaq
 .cases h;exact c aaq
 .cases h;exact c aaq
 .cases h
def Oy (d:kK)(a:Bool)(x y:CV):Option Bool:=match x,y with| .gz,.gz=>bE a (mJ d x y) none|_,_=>mJ d x y
def IK (d:kK):Bool:=match d with| .bytes _| .struct _| .array .. =>true|_=>false
def pEq (op:BinOp)(d:kK)(a:Bool)(x y:CV)(st:St):OR:=
 match op,Oy d a x y with
 | .eql,some b=>.ok (.bool b) st
 | .neq,some b=>.ok (.bool (!b)) st
 |_,_=>.bad
def wH (op:BinOp)(k:IntKind)(a:Int)(m:Nat)(st:St):OR:=
 match op,k with
 | .gtr,.i64=>bE (decide ((m:Int)<a)) .bad (.ok (.bool false) st)
 |_,_=>.bad
def aj (op:BinOp)(d:Option kK)(c:Bool)(x y:CV)(st:St):OR:=
 match x,y with
 | .int k a,.int j b=>ki op k a j b st
 | .str a,.str b=>sv op a b st
 | .int k a,.ir m=>wH op k a m st
 | .ir _,_=>.bad
 |_,.ir _=>.bad
 | .any,_=>.bad
 |_,.any=>.bad
 |x,y=>(match d with|some d=>pEq op d c x y st|none=>.bad)
def MJ (x y:Operand):Bool:=(match x with| .const _=>true|_=>false)||(match y with| .const _=>true|_=>false)
def mP {a b:Value}(f:¬(a=.nilIface/\b=.nilIface))(e:∀c d,¬(a=.agg c/\b=.agg d)):
 (eqGuard op t X Y a b).run P w=.ok () w:=by
 cases op<;>first
  |rfl
  |(simp only[eqGuard,aIb,aHH,aHV]
    split
    .exact absurd ⟨rfl,rfl⟩ f
    .exact absurd ⟨rfl,rfl⟩ (e _ _)
    .rfl)
def Im (h:MJ X Y=true):(eqGuard op t X Y .nilIface .nilIface).run P w=.ok () w:=by
 cases X<;>cases Y<;>first|(simp[MJ]at h;done)|(cases op<;>rfl)
def Wc {d:kK}{b:Bool}(h:mJ d x y=some b){s:List CV}(a:x=.agg s):IK d=true:=by
 subst a;cases d<;>simp[IK,mJ]at h⊢
def JZ {d:Option kK}{u:Bool}{y':Value}{f:Nat}(h:aj op d u x y st=.ok v st')(A:WR ρ st w)(n:VR ρ x x')(p:VR ρ y y')
 (J:∀e,d=some e->fW P f t=some e) (R:f<10000) (L:u=MJ X Y) (Q:∀e,d=some e->IK e=true->P.eqGuardType P.depth t=false):
 bH P (do eqGuard op t X Y x' y';binOp op t x' y') ρ st w v st':=by
 have g:∀{a b:Value},(eqGuard op t X Y a b).run P w=.ok () w->bH P (binOp op t a b) ρ st w v st'->bH P (do eqGuard op t X Y a b;binOp op t a b) ρ st w v st':=by
  intro a b N J;obtain⟨v',w',D,C,r,S⟩:=J;exact⟨v',w',D,by simp[N,C],r,S⟩
 unfold aj at h
 split at h
 .cases n;cases p;exact g (mP wb wb) (JW h A)
 .cases n;cases p;exact g (mP wb wb) (JT h A)
 .rename_i q a m;cases n;cases p with
  |ir _ c L=>
   unfold wH at h
   split at h
   .rw[aO]at h
    split at h
    .cases h
    .rename_i I;cases h;have T:¬((m:Nat):Int)<a:=by simpa using I
     refine g (mP wb wb) (bH.still A ?_ (.bool false));have r:decide (c<a)=false:=zS
     simp[binOp];show Sem.run P (pure (Value.bool (decide (c<a)))) w=_;rw[r];rfl
   .cases h
 .cases h
 .cases h
 .cases h
 .cases h
 .rename_i H j U o G B O
  split at h
  .rename_i e
   have z:∀b,Oy e u x y=some b->(Op.equal t x' y').run P w=.ok b w/\(eqGuard op t X Y x' y').run P w=.ok () w:=by
    intro b i
    have K:mJ e x y=some b:=by
     unfold Oy at i
     split at i
     .rw[aO]at i;split at i
      .exact i
      .cases i
     .exact i
    refine⟨Sf (P:=P) (w:=w) (ρ:=ρ) f t e (J e rfl) 10000 R x y x' y' b K n p,?_⟩
    by_cases C:x'=.nilIface/\y'=.nilIface
    .obtain⟨rfl,rfl⟩:=C;cases n<;>first|(exact absurd rfl j)|skip
     cases p<;>first|(exact absurd rfl o)|skip
     have:u=true:=by
      have e:Oy e u .gz .gz=bE u (mJ e .gz .gz) none:=rfl;rw[e,aO]at i
      split at i
      .assumption
      .cases i
     exact Im (by rw[<-L,this])
    .by_cases r:∃c d,x'=.agg c/\y'=.agg d
     .obtain⟨c,d,rfl,rfl⟩:=r;have:IK e=true:=by cases n with|agg s l _ _=>exact Wc K rfl|any=>exact absurd rfl j
      exact run_eqGuard_agg w op t X Y c d (Q e rfl this)
     .exact mP C (λc d hh=>r ⟨c,d,hh⟩)
   have M:∀k k' a b,¬(x'=.int k a/\y'=.int k' b):=by
    rintro k k' a b ⟨rfl,rfl⟩;cases n with
    |any=>exact j rfl
    |ir _ _ _=>exact H _ rfl
    |int _ _=>
     cases p with
     |any=>exact o rfl
     |ir _ _ _=>exact U _ rfl
     |int _ _=>exact G _ _ _ _ rfl rfl
   unfold pEq at h
   split at h
   .rename_i b i;obtain⟨F,E⟩:=z b i;cases h;refine g E (bH.still A ?_ (.bool b))
    cases n<;>first
     |(exact absurd rfl j)
     |(cases p<;>first
      |(exact absurd rfl o)
      |(exact absurd ⟨rfl,rfl⟩ (M _ _ _ _))
      |(exact(B _ _ rfl rfl).elim)
      |(simp only[binOp];simp[F]))
   .rename_i b i;obtain⟨F,E⟩:=z b i;cases h;refine g E (bH.still A ?_ (.bool _))
    cases n<;>first
     |(exact absurd rfl j)
     |(cases p<;>first
      |(exact absurd rfl o)
      |(exact absurd ⟨rfl,rfl⟩ (M _ _ _ _))
      |(exact(B _ _ rfl rfl).elim)
      |(simp only[binOp];simp[F]))
   .cases h
  .cases h
def mi (op:UnOp)(x:CV)(st:St):OR:=
 match op,x with
 | .not,.bool b=>.ok (.bool (!b)) st
 | .neg,.int k n=>.ok (.int k (k.wrap (0-n))) st
 | .xor,.int k n=>(match kD .xor k (if k.signed then-1 else k.max) n with|some r=>.ok (.int k r) st|none=>.bad)
 |_,_=>.bad
def Nn {op:UnOp}(h:mi op x st=.ok v st')(b:WR ρ st w)(a:VR ρ x x'):bH P (Op.unary op x') ρ st w v st':=by
 unfold mi at h
 split at h
 .cases h;cases a;exact bH.still b rfl (.bool _)
 .cases h;cases a;exact bH.still b rfl (.int _ _)
 .rename_i k n
  split at h
  .rename_i r c;cases h;cases a;exact bH.still b (yG P w .xor k _ n r c) (.int _ _)
  .cases h
 .cases h
end
end
