import Derived.WalkKit
import Derived.ChangeKeysEq
import Derived.Stop.BytesEq
namespace Lim
open Go
abbrev φ:=false
abbrev θ:=true
abbrev ν{α:Type _}:Option α:=.none
abbrev Φ{α:Type _}(a:α):Option α:=.some a
abbrev δ(α:Type _):=List α
abbrev υ(α:Type _):=Option α
abbrev Γ:=UInt8
abbrev Ξ:=@Result.andThen_ok
abbrev Ψ:=@Sem.run_bind
abbrev Ω:=@Sem.run_pure
abbrev io:=@List.getElem?_cons_zero
abbrev pi:=@Bool.false_eq_true
abbrev kc:=@List.getElem?_cons_succ
abbrev jo:=@decide_eq_false
abbrev hI:=@Nat.le_refl
abbrev B:=@if_neg
abbrev jp:=@decide_eq_true
abbrev oa:=@Nat.zero_add
abbrev ip:=@List.mem_cons
abbrev li:=@List.getElem?_eq_getElem
abbrev gq:=@if_pos
abbrev km:=@List.length_append
abbrev lw:=@List.take_of_length_le
abbrev ii:=@if_false
abbrev lh:=@List.mem_append
abbrev ra:=@Bool.not_false
abbrev kn:=@run_underlying
abbrev r8:=@Bool.not_true
abbrev qo:=@List.getElem?_eq_some_iff
abbrev su:=@List.take_succ_eq_append_getElem
abbrev lx:=@List.length_cons
abbrev CI:=@decide_eq_decide
abbrev pu:=@List.length_take
abbrev mZ:=@Bool.and_eq_true
abbrev mp:=@List.getElem_mem
abbrev ov:=@Nat.lt_of_lt_of_le
abbrev me:=@List.nodup_cons
abbrev ix:=@if_true
abbrev sS:=@List.length_eq_zero_iff
abbrev lm:=@List.mem_map
abbrev vT:=@List.drop_eq_getElem_cons
abbrev ow:=@List.nil_append
abbrev st:=@List.length_drop
abbrev ww:=@List.mem_of_mem_take
abbrev pw:=@List.map_cons
abbrev so:=@List.length_map
abbrev nR:=@Nat.ble_eq
abbrev ys:=@List.drop_of_length_le
abbrev tu:=@List.drop_zero
abbrev ul:=@List.getElem?_map
abbrev md:=@Nat.beq_eq
abbrev we:=@List.append_assoc
abbrev ut:=@List.cons_append
abbrev ws:=@decide_eq_true_eq
abbrev tH:=@List.mem_filter
abbrev IH:=@Array.getElem?_eq_some_iff
abbrev rc:=@Nat.add_zero
abbrev zv:=@Nat.mul_le_mul_right
abbrev wn:=@List.not_mem_nil
abbrev us:=@Nat.min_eq_left
abbrev rx:=@Nat.le_trans
abbrev CV:=@List.take_append_drop
abbrev wd:=@List.map_append
abbrev zR:=@List.mem_of_mem_drop
abbrev zt:=@List.mem_cons_self
abbrev Do:=@List.mem_of_getElem?
abbrev F0:=@List.length_replicate
abbrev xF:=@Bool.or_eq_true
abbrev Di:=@List.getElem_of_mem
abbrev EQ:=@List.mem_cons_of_mem
abbrev In:=@List.getElem?_eq_none
abbrev zy:=@List.nodup_append
abbrev tx:=@Nat.add_mul
abbrev Ey:=@List.mem_map_of_mem
abbrev So:=@Nat.eq_of_mul_eq_mul_right
abbrev zo:=@List.append_nil
abbrev Xj:=@Array.getElem?_setIfInBounds_ne
abbrev Jf:=@List.length_filter_le
abbrev sw:=@Nat.zero_le
abbrev wl:=@Nat.lt_or_ge
abbrev PO:=@decide_true
abbrev If:=@List.mem_singleton
abbrev ny:=@Ne.symm
abbrev AR:=@Option.map_some
abbrev Ep:=@List.filter_cons
abbrev AQ:=@List.take_take
abbrev Rh:=@List.getElem?_toArray
abbrev é:=@List.getElem?_append_right
abbrev Jd:=@Option.getD_some
abbrev S7:=@List.getElem_map
abbrev Pi:=@Nat.add_sub_cancel
abbrev Ov:=@Option.isSome_none
abbrev IR:=@List.length_nil
abbrev IP:=@List.cons.injEq
abbrev TK:=@List.length_pos_iff
abbrev QF:=@Nat.mod_eq_of_lt
abbrev rt:=@not_or
abbrev S2:=@Option.some.injEq
abbrev Å:=@List.getElem?_append_left
abbrev Ä:=@Array.toArray_toList
abbrev Zu:=@List.pairwise_append
abbrev TB:=@List.filter_append
abbrev sE:=@true_and
abbrev FS:=@decide_false
abbrev ì:=@Array.toList_map
abbrev JO:=@List.map_drop
abbrev aMM:=@List.getD_eq_getElem?_getD
abbrev ë:=@List.Pairwise.filter
abbrev Zd:=@Option.isSome_some
abbrev SM:=@List.take_left'
abbrev SG:=@UInt8.lt_irrefl
abbrev Ms:=@Prod.mk.injEq
abbrev L3:=@List.map_take
abbrev PP:=@or_false
abbrev Fi:=@Nat.mul_one
abbrev ê:=@List.perm_iff_count
abbrev YN:=@List.flatten_cons
abbrev Xm:=@of_decide_eq_true
abbrev St:=@List.drop_take
abbrev aMZ:=@Nat.add_sub_cancel_left
abbrev aNa:=@decide_eq_false_iff_not
abbrev À:=@List.mem_append_left
abbrev WF:=@List.take_append
abbrev LH:=@Nat.mul_comm
abbrev þ:=@Array.length_toList
abbrev å:=@Bool.not_eq_true'
abbrev ä:=@List.count_append
abbrev aNh:=@List.mem_or_eq_of_mem_set
abbrev S6:=@List.take_zero
abbrev ý:=@List.getElem?_take
abbrev ü:=@List.pairwise_cons
abbrev Li:=@Nat.one_mul
abbrev ã:=@Nat.lt_succ_self
abbrev aNn:=@BitVec.ofInt_natCast
abbrev S5:=@Bool.true_and
abbrev û:=@Int.toNat_natCast
abbrev ú:=@List.pairwise_map
abbrev aNr:=@List.replicate_succ
abbrev â:=@List.count_cons
abbrev aNt:=@List.findIdx_le_length
abbrev aNu:=@Int.fdiv_eq_ediv_of_nonneg
abbrev ù:=@List.all_eq_true
abbrev aNw:=@Int.natCast_nonneg
abbrev aNx:=@List.set_eq_take_append_cons_drop
abbrev aNy:=@Nat.eq_or_lt_of_le
abbrev aNz:=@BitVec.toNat_ofNat
abbrev aNA:=@List.filter_filter
abbrev aNB:=@List.pairwise_iff_getElem
abbrev è:=@List.nodup_nil
abbrev aND:=@List.reverse_reverse
abbrev aNE:=@List.size_toArray
abbrev aNF:=@List.ext_getElem?
abbrev Ã:=@Bool.eq_iff_iff
abbrev Â:=@Option.some.inj
abbrev NO:=@Nat.mod_lt
abbrev Á:=@List.find?_cons
abbrev Xf:=@List.map_map
abbrev WP:=@Nat.pow_succ
abbrev aNM:=@Array.getElem?_push
abbrev ç:=@Nat.add_assoc
abbrev aNO:=@List.take_succ_cons
abbrev aNP:=@List.drop_replicate
abbrev aNQ:=@List.flatten_append
abbrev aNR:=@List.length_reverse
abbrev aNS:=@List.getElem?_drop
abbrev aNT:=@UInt8.toNat_ofNat'
abbrev aNU:=@Array.toList_range
abbrev aNV:=@List.find?_eq_none
abbrev æ:=@Nat.add_comm
abbrev aNX:=@Array.getElem?_append
abbrev aNY:=@Nat.succ_le_iff
abbrev aNZ:=@UInt8.toNat_inj
abbrev aOa:=@List.mem_append_right
abbrev aOb:=@Nat.lt_trichotomy
abbrev aOc:=@List.find?_append
abbrev aOd:=@Nat.mul_le_mul
abbrev aOe:=@List.drop_drop
noncomputable section
set_option linter.defProp false
def J{p:Prop}(h:p:=by omega):p:=h
def V{p:Prop}(h:p:=by simp):p:=h
def tW{p:Prop}(h:p:=by decide):p:=h
def uV{p:Prop}(h:p:=by kernel_rfl):p:=h
def xI{p:Prop}(h:p:=by simp;omega):p:=h
def yZ{p:Prop}(h:p:=by rw[au,cQ];congr 2;simp only[CI];omega):p:=h
def AU{p:Prop}(h:p:=by rw[au,cE,bt (by omega)];rfl):p:=h
def CS{p:Prop}(h:p:=by rw[au,dY,bt (by omega)];congr 2;omega):p:=h
def CU{p:Prop}(h:p:=by rw[au,cn];congr 2;simp only[CI];omega):p:=h
def EV{p:Prop}(h:p:=by simpa using hc):p:=h
def EW{p:Prop}(h:p:=by rw[au,cE,bt (by omega)];congr 2):p:=h
def GU{p:Prop}(h:p:=by simpa using h):p:=h
def GW{p:Prop}(h:p:=by rw[au,cn,jo (by omega)]):p:=h
def Hk{p:Prop}(h:p:=by have:=vo b hb;omega):p:=h
def Hl{p:Prop}(h:p:=by rw[au,jt];congr 2;simp only[CI];omega):p:=h
def Hq{p:Prop}(h:p:=by have:=wx b hb;omega):p:=h
def J8{p:Prop}(h:p:=by simpa using hx):p:=h
def J9{p:Prop}(h:p:=by simpa using hi):p:=h
def Kk{p:Prop}(h:p:=by rw[au,dJ];congr 3;simp only[CI];omega):p:=h
def MR{p:Prop}(h:p:=by rw[au,jS,bt (by omega)];rfl):p:=h
def OF{p:Prop}(h:p:=by simpa using hlt):p:=h
def OG{p:Prop}(h:p:=by simp[hb]):p:=h
def OH{p:Prop}(h:p:=by rw[pu];omega):p:=h
def OJ{p:Prop}(h:p:=by show((8+n:Nat):Int)<256;omega):p:=h
def QM{p:Prop}(h:p:=by simpa using h1):p:=h
def QN{p:Prop}(h:p:=by rw[tu,lw (by omega)]):p:=h
def QO{p:Prop}(h:p:=by simp[h]):p:=h
def QU{p:Prop}(h:p:=by simp[hq]):p:=h
def Vt{p:Prop}(h:p:=by rw[show List.findIdx (λc:dq=>decide (lO key c.key)) n.cells=n.find key from rfl,<-h];exact hc):p:=h
def Vu{p:Prop}(h:p:=by simp at h):p:=h
def Yr{p:Prop}(h:p:=by rw[st];omega):p:=h
def Ys{p:Prop}(h:p:=by split<;>omega):p:=h
def Yt{p:Prop}(h:p:=by simp[binOp,Op.stringOp,lX]):p:=h
def Hs{p:Prop}(h:p:=by simp[hx]):p:=h
def aai{p:Prop}(h:p:=by rw[au,cU];congr 2;simp only[CI];omega):p:=h
def aan{p:Prop}(h:p:=by rw[au,cU,jo (by omega)]):p:=h
def S3{p:Prop}(h:p:=by simp[hq x hx]):p:=h
def aau{p:Prop}(h:p:=by have:=(f5 b hb).2;omega):p:=h
def QL{p:Prop}(h:p:=by simp[lb,mY]):p:=h
def Vl{p:Prop}(h:p:=by simpa using h2):p:=h
def aaz{p:Prop}(h:p:=by have:=hF b hb;simp;omega):p:=h
def Vx{p:Prop}(h:p:=by rw[<-hl];rfl):p:=h
def aaC{p:Prop}(h:p:=by simp[zeroValue,typeInfo,hi,hz]):p:=h
def aaD{p:Prop}(h:p:=by rw[bt (by omega)];omega):p:=h
def aaE{p:Prop}(h:p:=by have:=(vo b hb).2;omega):p:=h
def aaF{p:Prop}(h:p:=by have:=(hF q hq).2;omega):p:=h
def aaG{p:Prop}(h:p:=by have:=hw.fresh b x hx;rw[e]at this;omega):p:=h
def aaH{p:Prop}(h:p:=by rw[Ren.dF _ _ _ _ (jg b _ hr)];exact hr):p:=h
def aaI{p:Prop}(h:p:=by rw[dG.len];exact hI _):p:=h
def QV{p:Prop}(h:p:=by simp[ba]):p:=h
def õ{p:Prop}(h:p:=by simpa using he):p:=h
def aaL{p:Prop}(h:p:=by have:=yx (i:=0) hj;simpa using this):p:=h
def aaO{p:Prop}(h:p:=by rw[e];unfold EH;rw[hc];dsimp only;rw[hv];exact hN m hm):p:=h
def aaY{p:Prop}(h:p:=by rw[ar _ _ _ _ (by omega),bo _ _ _ (by omega)];exact g1):p:=h
def abc{p:Prop}(h:p:=by rw[ar _ _ _ _ (by omega),bo _ _ _ (by omega)];exact g3):p:=h
def abf{p:Prop}(h:p:=by simp at hq;omega):p:=h
def abg{p:Prop}(h:p:=by have:=h.lt;omega):p:=h
def abx{p:Prop}(h:p:=by rw[Ren.dF _ _ _ _ (λe=>by rw[e]at hq;omega)];exact hn):p:=h
def ô{p:Prop}(h:p:=by rw[nR];omega):p:=h
def aca{p:Prop}(h:p:=by rw[t3];exact hB):p:=h
def acb{p:Prop}(h:p:=by have:=b.node.ok.cell;rw[b.inner]at this;exact this):p:=h
def ó{p:Prop}(h:p:=by rw[bN];omega):p:=h
def aci{p:Prop}(h:p:=by have:=(a3 b hb).1;omega):p:=h
def acm{p:Prop}(h:p:=by simpa using jg):p:=h
def acn{p:Prop}(h:p:=by rw[List.length_zip,dG.len];simp):p:=h
def acp{p:Prop}(h:p:=by simpa using hs):p:=h
def Vf{p:Prop}(h:p:=by simp[o1]):p:=h
def acs{p:Prop}(h:p:=by rw[<-i2 q λj t g1 g2=>hq j t g1 (by omega),Kd]):p:=h
def ò{p:Prop}(h:p:=by simp[x2,y2]):p:=h
def ñ{p:Prop}(h:p:=by simp[ia,b4]):p:=h
def acL{p:Prop}(h:p:=by simp[binOp,Op.intArith]<;>rfl):p:=h
def NL{p:Prop}(h:p:=by rw[e]):p:=h
def acQ{p:Prop}(h:p:=by decide+kernel):p:=h
def acX{p:Prop}(h:p:=by rw[il];decide):p:=h
def adf{p:Prop}(h:p:=by rw[<-e];exact h1):p:=h
def adi{p:Prop}(h:p:=by unfold PI.W;simp):p:=h
def adm{p:Prop}(h:p:=by rw[S7];exact hK):p:=h
def adp{p:Prop}(h:p:=by rw[h3];show(dm M.cC n).getD []=s';rw[q1];rfl):p:=h
def adA{p:Prop}(h:p:=by unfold Pb;rw[jo (by omega)]):p:=h
def adB{p:Prop}(h:p:=by rw[vp hu,show jB u=φ by simpa using ha]):p:=h
def adG{p:Prop}(h:p:=by unfold cO;simp;omega):p:=h
def adI{p:Prop}(h:p:=by rw[tF];rw[e2]at e5;exact e5):p:=h
def adO{p:Prop}(h:p:=by simp[Go.sizeOf,typeInfo,hi]):p:=h
def à{p:Prop}(h:p:=by simp[h1]):p:=h
def ZO{p:Prop}(h:p:=by simp[al]):p:=h
def adS{p:Prop}(h:p:=by simp only[ip,lh,rt];exact⟨x4,x5,x6,x7⟩):p:=h
def aeb{p:Prop}(h:p:=by simp only[ip,lh,rt];exact⟨cG,cN,cP,cJ⟩):p:=h
def aec{p:Prop}(h:p:=by have:=lc b hb;omega):p:=h
def aed{p:Prop}(h:p:=by have:=sX q hh;omega):p:=h
def aei{p:Prop}(h:p:=by have:=wx _ hh;omega):p:=h
def ZA{p:Prop}(h:p:=by simp[bR]):p:=h
def ael{p:Prop}(h:p:=by simpa using hb):p:=h
def aem{p:Prop}(h:p:=by simpa using hj):p:=h
def aen{p:Prop}(h:p:=by simpa using hT):p:=h
def aeq{p:Prop}(h:p:=by simpa using h5):p:=h
def aeC{p:Prop}(h:p:=by simpa using (List.mem_range'_1.1 hj).2):p:=h
def aeD{p:Prop}(h:p:=by rw[om _ _ _ (by simp[vu];omega)];omega):p:=h
def aeF{p:Prop}(h:p:=by simp[Builtin.firstCells]):p:=h
def aeP{p:Prop}(h:p:=by rw[<-Ä (xs:=args'),e1]):p:=h
def aeU{p:Prop}(h:p:=by rw[au,cQ,jo (by omega)]):p:=h
def afa{p:Prop}(h:p:=by unfold aX.En;rw[hw];simp):p:=h
def afb{p:Prop}(h:p:=by have:=h.pg.lt b hh;omega):p:=h
def afd{p:Prop}(h:p:=by have:=h.pg.lt _ hh;omega):p:=h
def afe{p:Prop}(h:p:=by rw[<-e4];exact h1):p:=h
def aff{p:Prop}(h:p:=by have:=tC.nx;omega):p:=h
def afg{p:Prop}(h:p:=by have:=ht.lt;omega):p:=h
def afi{p:Prop}(h:p:=by rw[h.eq];simpa using hb):p:=h
def afj{p:Prop}(h:p:=by have:=(PU q hq).1;omega):p:=h
def afk{p:Prop}(h:p:=by have:=(PU b hb).1;omega):p:=h
def afl{p:Prop}(h:p:=by rw[au,dY,bt (by omega)]):p:=h
def afm{p:Prop}(h:p:=by have:=(a3 q hq).1;omega):p:=h
def afn{p:Prop}(h:p:=by have:=(hF b hb).2;omega):p:=h
def afo{p:Prop}(h:p:=by have:=(P7 _ hh).1;omega):p:=h
def afp{p:Prop}(h:p:=by have:=(vo b hb).1;omega):p:=h
def afq{p:Prop}(h:p:=by unfold bO;split<;>omega):p:=h
def ð{p:Prop}(h:p:=by simp[fo]):p:=h
def afs{p:Prop}(h:p:=by rw[ì];exact Zm):p:=h
def aft{p:Prop}(h:p:=by rw[bN,ecl];omega):p:=h
def afz{p:Prop}(h:p:=by dsimp only;omega):p:=h
def afA{p:Prop}(h:p:=by simp only[mZ,nR];exact⟨hk,q1,q2⟩):p:=h
def afB{p:Prop}(h:p:=by rw[LY];exact e1):p:=h
def afC{p:Prop}(h:p:=by simp at hb;simp;omega):p:=h
def afD{p:Prop}(h:p:=by rw[vJ,gq (by omega)]):p:=h
def afE{p:Prop}(h:p:=by simp only[lx];omega):p:=h
def afF{p:Prop}(h:p:=by simp[pK,ia,b4];omega):p:=h
def afG{p:Prop}(h:p:=by simpa using hl):p:=h
def afH{p:Prop}(h:p:=by rw[e];exact vx):p:=h
def afI{p:Prop}(h:p:=by simp[vu];omega):p:=h
def afJ{p:Prop}(h:p:=by simpa using tK):p:=h
def afK{p:Prop}(h:p:=by simpa using hp):p:=h
def afL{p:Prop}(h:p:=by simpa using hn.symm):p:=h
def afM{p:Prop}(h:p:=by simp at hx;simp[hx]):p:=h
def afN{p:Prop}(h:p:=by have:=lF b hb;omega):p:=h
def afO{p:Prop}(h:p:=by simp[bC]):p:=h
def afP{p:Prop}(h:p:=by have:=P7 b hb;omega):p:=h
def É{p:Prop}(h:p:=by simp[hh]):p:=h
def afR{p:Prop}(h:p:=by have:=SU _ hh;omega):p:=h
def afS{p:Prop}(h:p:=by simpa using a):p:=h
def afT{p:Prop}(h:p:=by simpa using b):p:=h
def afU{p:Prop}(h:p:=by rw[tx];omega):p:=h
def afV{p:Prop}(h:p:=by rw[h.eq];simp):p:=h
def afW{p:Prop}(h:p:=by simp[bp.size]):p:=h
def lk{p:Prop}(h:p:=by exact λ_ h=>.inl h):p:=h
def gt:True:=trivial
def PT (α:Type):=Nat->υ α
namespace PT
variable {α:Type}
def g (t:PT α)(p:Nat):Option α:=t p
def put (t:PT α)(p:Nat)(x:υ α):PT α:=λq=>if q=p then x else t q
def nil:PT α:=λ_=>ν
def fw (t:PT α)(p q:Nat)(x:υ α):(t.put p x).g q=if q=p then x else t.g q:=rfl
def du (t:PT α)(p:Nat)(x:υ α):(t.put p x).g p=x:=by simp[fw]
def dy (t:PT α)(p q:Nat)(x:υ α)(h:q≠p):(t.put p x).g q=t.g q:=by simp[fw,h]
@[simp] def get_nil (p:Nat):(nil:PT α).g p=ν:=rfl
def ext {t u:PT α}(h:∀p,t.g p=u.g p):t=u:=funext h
end PT
def bF {α:Type}(b:Bool)(t f:α):α:=if b=θ then t else f
@[simp] def aS {α:Type}(b:Bool)(t f:α):bF b t f=if b=θ then t else f:=rfl
def qT {α a:Type}(x:α)(k:α->a):a:=k x
@[simp] def dR {α a:Type}(x:α)(k:α->a):qT x k=k x:=rfl
inductive K where
 |undef
 |bool (b:Bool)
 |int (k:IntKind) (n:Int)
 |str (l:List UInt8)
 |bq
 |ptr (b:Nat) (off:Nat)
 |ae
 |slice (b:Nat) (off len cap grow:Nat)
 |gM
 |map (b:Nat)
 |func (fn:Fn) (first captured:List K)
 |nK
 |iface (t:TypeId) (v:K)
 |eH
 |agg (s:List K)
 |tuple (s:List K)
 |iQ (n:Nat)
 |any
 |oM
def bG (b:Γ):K:=.int .u8 b.toNat
abbrev row (s:δ K):δ K:=s
def iv {α:Type}(s:δ α)(off n:Nat):υ (δ α):=if off+n<=s.length then Φ ((s.drop off).take n)else ν
def eB {α:Type}(s:δ α)(off:Nat)(t:δ α):υ (δ α):=if off+t.length<=s.length then Φ (s.take off++(t++s.drop (off+t.length)))else ν
def ld {α:Type}{s t:δ α}{off n:Nat}(h:iv s off n=Φ t):off+n<=s.length/\t=(s.drop off).take n:=by
 unfold iv at h;split at h
 .cases h;exact⟨by assumption,rfl⟩
 .cases h
def zU {α:Type}{s t s':δ α}{off:Nat}(h:eB s off t=Φ s'):off+t.length<=s.length/\s'=s.take off++(t++s.drop (off+t.length)):=by
 unfold eB at h;split at h
 .cases h;exact⟨by assumption,rfl⟩
 .cases h
def Al:=And.intro @r8 @PO
def GZ:=And.intro @rt @PP
section
variable {v:K}{v':Value}{l':δ Value}{o:Obj}{w':World}{sz r:Nat}
inductive tp where
 |cells (s:List K) (t:TypeId) (grow:Bool)
 |map (es:List (K×K×Nat)) (clock:Nat)
 |lmap (es:List (K×K×Nat))
 |ro (s:List K) (o:Obj)
structure O where
 m:PT tp
 nx:Nat
abbrev Ren:=Nat->υ (Nat×Nat)
def iI (l:δ Γ):ByteArray:=⟨l.toArray⟩
@[simp] def lY (l:δ Γ):(iI l).size=l.length:=by simp[iI,ByteArray.size]
def lZ (s:ByteArray):iI s.data.toList=s:=by cases s;simp[iI]
inductive VR (ρ:Ren):K->Value->Prop where
 |undef:VR ρ .undef (.tuple #[])
 |bool (b:Bool):VR ρ (.bool b) (.bool b)
 |int (k:IntKind) (n:Int):VR ρ (.int k n) (.int k n)
 |str (l:List UInt8):VR ρ (.str l) (.string (iI l))
 |bq:VR ρ .bq (.pointer none)
 |ptr (b:Nat) (off r sz:Nat) (h:ρ b=some (r,sz)):VR ρ (.ptr b off) (.pointer (some ⟨r,off,none⟩))
 |ae:VR ρ .ae (.slice none 0 0)
 |slice (b:Nat) (off len cap r sz:Nat) (h:ρ b=some (r,sz)):VR ρ (.slice b off len cap 0) (.slice (some ⟨r,off,none⟩) len cap)
 |pX (b:Nat) (off dM len cap fS grow r sz:Nat) (h:ρ b=some (r,sz)) (hg:0<grow) (hl:len<=cap) (hc:cap<=fS) (ho:0<cap->dM=off)
  (hs:dM+fS*grow<=sz):VR ρ (.slice b off len cap grow) (.slice (some ⟨r,dM,none⟩) len fS)
 |gM:VR ρ .gM (.map none)
 |map (b:Nat) (r sz:Nat) (h:ρ b=some (r,sz)):VR ρ (.map b) (.map (some r))
 |func (fn:Fn) (f c:List K) (f' c':List Value) (hf:(row f).length=f'.length) (hc:(row c).length=c'.length)
  (h1:∀(i:Nat) (v:K) (v':Value),(row f)[i]?=some v->f'[i]?=some v'->VR ρ v v')
  (h2:∀(i:Nat) (v:K) (v':Value),(row c)[i]?=some v->c'[i]?=some v'->VR ρ v v'):VR ρ (.func fn f c) (.func fn f'.toArray c'.toArray)
 |nK:VR ρ .nK .nilFunc
 |iface (t:TypeId) (v:K) (v':Value) (h:VR ρ v v'):VR ρ (.iface t v) (.iface t v')
 |eH:VR ρ .eH .nilIface
 |agg (s:List K) (l:List Value) (hl:(row s).length=l.length)
  (h:∀(i:Nat) (v:K) (v':Value),(row s)[i]?=some v->l[i]?=some v'->VR ρ v v'):VR ρ (.agg s) (.agg l.toArray)
 |tuple (s:List K) (l:List Value) (hl:(row s).length=l.length)
  (h:∀(i:Nat) (v:K) (v':Value),(row s)[i]?=some v->l[i]?=some v'->VR ρ v v'):VR ρ (.tuple s) (.tuple l.toArray)
 |iQ (n:Nat) (m:Int) (h:(n:Int)<=m):VR ρ (.iQ n) (.int .i64 m)
 |any (v':Value):VR ρ .any v'
 |oM (a:Addr):VR ρ .oM (.slice (some a) 0 0)
structure fp (ρ:Ren)(l:List K)(l':List Value):Prop where
 len:l.length=l'.length
 at':∀(i:Nat) (v:K) (v':Value),l[i]?=some v->l'[i]?=some v'->VR ρ v v'
def Ren.le (ρ a:Ren):Prop:=∀b r,ρ b=Φ r->a b=Φ r
def VR.mono {ρ e:Ren}(d:ρ.le e)(h:VR ρ v v'):VR e v v':=by
 induction h with
 |undef=>exact .undef
 |bool b=>exact .bool b
 |int k n=>exact .int k n
 |str l=>exact .str l
 |bq=>exact .bq
 |ptr b off r sz h=>exact .ptr b off r sz (d _ _ h)
 |ae=>exact .ae
 |slice b off len cap r sz h=>exact .slice b off len cap r sz (d _ _ h)
 |pX b off dM len cap fS grow r sz h hg hl hc ho hs=>exact .pX b off dM len cap fS grow r sz (d _ _ h) hg hl hc ho hs
 |gM=>exact .gM
 |map b r sz h=>exact .map b r sz (d _ _ h)
 |func fn f c f' c' hf hc h1 h2 j i=>exact .func fn f c f' c' hf hc j i
 |nK=>exact .nK
 |iface t v v' _ g=>exact .iface t v v' g
 |eH=>exact .eH
 |agg s l hl _ g=>exact .agg s l hl g
 |tuple s l hl _ g=>exact .tuple s l hl g
 |iQ n m h=>exact .iQ n m h
 |any v'=>exact .any v'
 |oM a=>exact .oM a
def fp.mono {ρ c:Ren}(d:ρ.le c){l:δ K}(h:fp ρ l l'):fp c l l':=
 ⟨h.len,λi v v' a b=>(h.at' i v v' a b).mono d⟩
def fp.nil (ρ:Ren):fp ρ [] []:=⟨rfl,λi v v' h=>Vu⟩
def fp.cons {ρ:Ren}{l:δ K}(h:VR ρ v v')(t:fp ρ l l'):fp ρ (v::l) (v'::l'):=
 ⟨by simp[t.len],λi x c a b=>by
  cases i with
  |zero=>simp at a b;subst a;subst b;exact h
  |succ i=>exact t.at' i x c afS afT⟩
def fp.inv {ρ:Ren}{l:δ K}(h:fp ρ (v::l) l'):∃v' c,l'=v'::c/\VR ρ v v'/\fp ρ l c:=by
 cases l' with
 |nil=>have:=h.len;simp at this
 |cons v' c=>
  exact⟨v',c,rfl,h.at' 0 v v' rfl rfl,⟨by have:=h.len;simpa using this,λi x d a b=>h.at' (i+1) x d afS afT⟩⟩
def fp.app {ρ:Ren}{l m:δ K}{a:δ Value}(h:fp ρ l l')(t:fp ρ m a):fp ρ (l++m) (l'++a):=by
 induction l generalizing l' with
 |nil=>have:l'=[]:=by have:=h.len;simpa using this.symm
       subst this;exact t
 |cons v l b=>obtain⟨v',e,rfl,d,c⟩:=h.inv;exact fp.cons d (b c)
def fp.take {ρ:Ren}{l:δ K}(h:fp ρ l l')(n:Nat):fp ρ (l.take n) (l'.take n):=
 ⟨by simp[h.len],λi v v' a b=>by
  rw[ý]at a b
  split at a
  .rename_i hi;rw[gq hi]at b;exact h.at' i v v' a b
  .cases a⟩
def fp.drop {ρ:Ren}{l:δ K}(h:fp ρ l l')(n:Nat):fp ρ (l.drop n) (l'.drop n):=
 ⟨by simp[h.len],λi v v' a b=>by rw[aNS]at a b;exact h.at' _ v v' a b⟩
def fp.bytes (ρ:Ren)(l:δ Γ):fp ρ (l.map bG) (l.map λb:Γ=>Value.int .u8 (b.toNat:Int)):=by
 induction l with
 |nil=>exact fp.nil ρ
 |cons a l c=>exact fp.cons (.int _ _) c
inductive BR (ρ:Ren):tp->Obj->Nat->Prop where
 |cells (s:List K) (t:TypeId) (g:Bool) (c:Array Value) (lo hi:Nat) (hlen:s.length<=c.size)
  (hc:fp ρ (row s) (c.toList.take s.length)) (hf:∀k,k<c.size->¬(lo<=k/\k<hi)) (hg:g=false->∀k,¬(lo<=k/\k<hi)):BR ρ (.cells s t g) (.cells c t (lo,hi)) c.size
 |map (es:List (K×K×Nat)) (clock:Nat) (es':List MapEntry) (hl:es.length=es'.length)
  (h:∀(i:Nat) (e:K×K×Nat) (e':MapEntry),es[i]?=some e->es'[i]?=some e'->VR ρ e.1 e'.key/\VR ρ e.2.1 e'.val/\e.2.2=e'.born) (sz:Nat):
  BR ρ (.map es clock) (.map es'.toArray clock) sz
 |lmap (es l:List (K×K×Nat)) (clock:Nat) (es':List MapEntry) (hp:l.Perm es) (hi:∀e∈es,∃n:Int,e.1=.int .i64 n) (hn:(es.map (·.1)).Nodup) (hs:Go.MapKept.Stamped es'.toArray clock) (hl:l.length=es'.length)
  (h:∀(i:Nat) (e:K×K×Nat) (e':MapEntry),l[i]?=some e->es'[i]?=some e'->VR ρ e.1 e'.key/\VR ρ e.2.1 e'.val) (sz:Nat):BR ρ (.lmap es) (.map es'.toArray clock) sz
 |ro (s:List K) (c:Array Value) (t:TypeId) (lo hi:Nat) (hlen:s.length<=c.size) (hc:fp ρ (row s) (c.toList.take s.length)):BR ρ (.ro s (.cells c t (lo,hi))) (.cells c t (lo,hi)) c.size
def BR.mono {ρ f:Ren}(d:ρ.le f){b:tp}{n:Nat}(h:BR ρ b o n):BR f b o n:=by
 cases h with
 |cells s t g c lo hi hlen hc hf hg=>exact .cells s t g c lo hi hlen (hc.mono d) hf hg
 |map es clock es' hl h=>
  exact .map es clock es' hl (λi e e' a b=>let ⟨x,y,z⟩:=h i e e' a b;⟨x.mono d,y.mono d,z⟩) _
 |lmap es l clock es' hp hi hn hs hl h=>exact .lmap es l clock es' hp hi hn hs hl (λi e e' a b=>let ⟨x,y⟩:=h i e e' a b;⟨x.mono d,y.mono d⟩) _
 |ro s c t lo hi hlen hc=>exact .ro s c t lo hi hlen (hc.mono d)
structure WR (ρ:Ren)(Z:O)(w:World):Prop where
 at':∀b blk r sz,Z.m.g b=some blk->ρ b=some (r,sz)->∃o,w.heap[r]?=some o/\BR ρ blk o sz
 inj:∀b b' blk fK r sz Re,Z.m.g b=some blk->Z.m.g b'=some fK->ρ b=some (r,sz)->ρ b'=some (r,Re)->b=b'
 fresh:∀b x,ρ b=some x->b<Z.nx
structure br (ρ:Ren)(Z:O)(w:World)(ρ':Ren)(Z':O)(w':World):Prop where
 wr:WR ρ' Z' w'
 ext:ρ.le ρ'
 Of:∀b,b<Z.nx->ρ b=none->ρ' b=none
 nx:Z.nx<=Z'.nx
 origin:∀b blk r sz,Z'.m.g b=some blk->ρ' b=some (r,sz)->(∃b0 blk0 E7,Z.m.g b0=some blk0/\ρ b0=some (r,E7))\/w.heap.size<=r
 kept:∀r:Nat,r<w.heap.size->(∀b blk sz,Z.m.g b=some blk->ρ b≠some (r,sz))->w'.heap[r]?=w.heap[r]?
 size:w.heap.size<=w'.heap.size
 os:w'.os=w.os
 output:w'.output=w.output
def br.refl {ρ:Ren}{Z:O}{w:World}(h:WR ρ Z w):br ρ Z w ρ Z w:=
 ⟨h,λ_ _ h=>h,λ_ _ h=>h,hI _,λb blk _ sz c a=>.inl ⟨b,blk,sz,c,a⟩,λ_ _ _=>rfl,hI _,rfl,rfl⟩
def br.trans {ρ ρ1 ρ2:Ren}{Z iD wK:O}{w w1 w2:World}(a:br ρ Z w ρ1 iD w1)(b:br ρ1 iD w1 ρ2 wK w2):
 br ρ Z w ρ2 wK w2 where
 wr:=b.wr
 ext:=λ_ _ h=>b.ext _ _ (a.ext _ _ h)
 Of:=λq hq h=>b.Of q (ov hq a.nx) (a.Of q hq h)
 nx:=rx a.nx b.nx
 origin:=λx blk r sz h1 h2=>by
  rcases b.origin x blk r sz h1 h2 with⟨b0,blk0,E7,h3,h4⟩|h3
  .exact a.origin b0 blk0 r E7 h3 h4
  .exact .inr (rx a.size h3)
 kept:=λr hr hn=>by
  rw[b.kept r (ov hr a.size),a.kept r hr hn];intro x blk sz h1 h2;rcases a.origin x blk r sz h1 h2 with⟨b0,blk0,E7,h3,h4⟩|h3
  .exact hn b0 blk0 E7 h3 h4
  .omega
 size:=rx a.size b.size
 os:=b.os.trans a.os
 output:=b.output.trans a.output
def WR.Gw {ρ:Ren}{Z:O}{w:World}(h:WR ρ Z w)(e:w'.heap=w.heap):WR ρ Z w':=
 ⟨λb blk r sz c a=>by rw[e];exact h.at' b blk r sz c a,h.inj,h.fresh⟩
def br.draw {ρ:Ren}{Z:O}{w:World}(h:WR ρ Z w)(d:Nat):br ρ Z w ρ Z {w with drawn:=d}:=
 ⟨h.Gw rfl,λ_ _ h=>h,λ_ _ h=>h,hI _,λb blk _ sz c a=>.inl ⟨b,blk,sz,c,a⟩,λ_ _ _=>rfl,hI _,rfl,rfl⟩
def Ren.set (ρ:Ren)(b:Nat)(x:Nat×Nat):Ren:=λq=>if b=q then Φ x else ρ q
def Ren.eZ (ρ:Ren)(b:Nat)(x:Nat×Nat):ρ.set b x b=Φ x:=by simp[Ren.set]
def Ren.dF (ρ:Ren)(b q:Nat)(x:Nat×Nat)(h:q≠b):ρ.set b x q=ρ q:=by
 unfold Ren.set;rw[B];intro e;exact h (e.symm)
def O.new (Z:O)(blk:tp):O:=⟨Z.m.put Z.nx (Φ blk),(Z.nx+1)⟩
def br.new {ρ:Ren}{Z:O}{w:World}(h:WR ρ Z w){blk:tp}(C:BR (ρ.set Z.nx (w.heap.size,sz)) blk o sz):
 br ρ Z w (ρ.set Z.nx (w.heap.size,sz)) (Z.new blk) {w with heap:=w.heap.push o}/\ρ.set Z.nx (w.heap.size,sz) Z.nx=Φ (w.heap.size,sz):=by
 have jg:∀b x,ρ b=Φ x->b≠Z.nx:=λb x u e=>by have:=h.fresh b x u;rw[e]at this;omega
 have l:ρ.le (ρ.set Z.nx (w.heap.size,sz)):=λb _ hr=>aaH
 have k:∀b blk r s,Z.m.g b=Φ blk->ρ b=Φ (r,s)->r<w.heap.size:=λb blk r s c a=>by
  obtain⟨D,y,_⟩:=h.at' b blk r s c a;exact(IH.1 y).1
 have d:∀b fK,b≠Z.nx->(Z.new blk).m.g b=Φ fK->Z.m.g b=Φ fK:=λb fK C c=>by
  simpa[O.new,PT.dy _ _ _ _ C]using c
 have z:∀b fK r s,(Z.new blk).m.g b=Φ fK->ρ.set Z.nx (w.heap.size,sz) b=Φ (r,s)->(∃F blk0 H,Z.m.g F=Φ blk0/\ρ F=Φ (r,H))\/w.heap.size<=r:=λb fK r s c a=>by
  by_cases e:b=Z.nx
  .subst e;rw[Ren.eZ]at a;cases a;exact .inr (hI _)
  .rw[Ren.dF _ _ _ _ e]at a;exact .inl ⟨b,fK,s,d b fK e c,a⟩
 have I:∀r:Nat,r<w.heap.size->(∀b blk sz,Z.m.g b=Φ blk->ρ b≠Φ (r,sz))->(w.heap.push o)[r]?=w.heap[r]?:=λr hr _=>by
  rw[aNM,B J]
 refine⟨⟨⟨λb fK r s c a=>?_,λb j n p r s s' c a i f=>?_,λb x u=>?_⟩,l,λq hq hn=>abx,?_,z,I,V,rfl,rfl⟩,Ren.eZ _ _ _⟩
 .by_cases e:b=Z.nx
  .subst e;simp only[O.new,PT.du,S2]at c;subst c;rw[Ren.eZ]at a;cases a;exact⟨o,V,C⟩
  .rw[Ren.dF _ _ _ _ e]at a;obtain⟨D,y,G⟩:=h.at' b fK r s (d b fK e c) a;refine⟨D,?_,G.mono l⟩;have:=(IH.1 y).1;rw[aNM,B J];exact y
 .by_cases e:b=Z.nx
  .by_cases e':j=Z.nx
   .rw[e,e']
   .rw[e,Ren.eZ]at i;cases i;rw[Ren.dF _ _ _ _ e']at f;have:=k j p _ _ (d j p e' a) f;omega
  .by_cases e':j=Z.nx
   .rw[e',Ren.eZ]at f;cases f;rw[Ren.dF _ _ _ _ e]at i;have:=k b n _ _ (d b n e c) i;omega
   .rw[Ren.dF _ _ _ _ e]at i;rw[Ren.dF _ _ _ _ e']at f;exact h.inj b j n p r s s' (d b n e c) (d j p e' a) i f
 .show b<(Z.nx+1)
  by_cases e:b=Z.nx
  .subst e;omega
  .rw[Ren.dF _ _ _ _ e]at u;have:=h.fresh b x u;omega
 .show Z.nx<=(Z.nx+1);omega
def O.set (Z:O)(b:Nat)(blk:tp):O:=⟨Z.m.put b (Φ blk),Z.nx⟩
def br.set {ρ:Ren}{Z:O}{w:World}(h:WR ρ Z w){b:Nat}{blk0 blk:tp}(h0:Z.m.g b=Φ blk0)(hr:ρ b=Φ (r,sz))
 (ho:w'.heap[r]?=Φ o) (hb:BR ρ blk o sz) (hk:∀k,k≠r->w'.heap[k]?=w.heap[k]?) (hs:w'.heap.size=w.heap.size) (hos:w'.os=w.os) (SO:w'.output=w.output):
 br ρ Z w ρ (Z.set b blk) w' where
 wr:={
  at':=λq fK r' s' h1 e1=>by
   by_cases e:q=b
   .subst e;simp only[O.set,PT.du,S2]at h1;subst h1;rw[hr]at e1;cases e1;exact⟨o,ho,hb⟩
   .simp only[O.set,PT.dy _ _ _ _ e]at h1;obtain⟨o',e2,e3⟩:=h.at' q fK r' s' h1 e1;refine⟨o',?_,e3⟩;rw[hk r' (λe'=>e (h.inj q b fK blk0 r s' sz h1 h0 (by rw[e1,e']) hr))];exact e2
  inj:=λq q' oU nG r1 s1 s2 h1 h2 h3 h4=>by
   have g:∀q fK,(Z.set b blk).m.g q=Φ fK->∃x,Z.m.g q=Φ x:=λq fK hq=>by
    by_cases e:q=b
    .subst e;exact⟨_,h0⟩
    .simp only[O.set,PT.dy _ _ _ _ e]at hq;exact⟨_,hq⟩
   obtain⟨x1,g1⟩:=g q oU h1;obtain⟨x2,g2⟩:=g q' nG h2;exact h.inj q q' x1 x2 r1 s1 s2 g1 g2 h3 h4
  fresh:=h.fresh}
 ext:=λ_ _ h=>h
 Of:=λ_ _ h=>h
 nx:=hI _
 origin:=λq fK r1 s1 h1 h2=>by
  by_cases e:q=b
  .subst e;exact .inl ⟨q,blk0,s1,h0,h2⟩
  .simp only[O.set,PT.dy _ _ _ _ e]at h1;exact .inl ⟨q,fK,s1,h1,h2⟩
 kept:=λk _ hn=>hk k (λe=>hn b blk0 sz h0 (by rw[hr,e]))
 size:=J
 os:=hos
 output:=SO
def O.move (Z:O)(b:Nat)(blk:tp):O:=⟨(Z.m.put b ν).put Z.nx (Φ blk),(Z.nx+1)⟩
def br.move {ρ:Ren}{Z:O}{w:World}(h:WR ρ Z w){b:Nat}{blk0 blk:tp}(y:Z.m.g b=Φ blk0)(l:ρ b=Φ (r,sz))
 (P:w'.heap[r]?=Φ o) (Q:BR (ρ.set Z.nx (r,sz)) blk o sz) (L:∀k,k≠r->w'.heap[k]?=w.heap[k]?) (hs:w'.heap.size=w.heap.size) (G:w'.os=w.os) (W:w'.output=w.output):
 br ρ Z w (ρ.set Z.nx (r,sz)) (Z.move b blk) w':=by
 have I:∀q x,ρ q=Φ x->q≠Z.nx:=λq x d e=>by have:=h.fresh q x d;rw[e]at this;omega
 have u:ρ.le (ρ.set Z.nx (r,sz)):=λq x d=>by rw[Ren.dF _ _ _ _ (I q x d)];exact d
 have Mp:=I b _ l
 have j:∀q fK,q≠Z.nx->(Z.move b blk).m.g q=Φ fK->q≠b/\Z.m.g q=Φ fK:=λq fK hq a=>by
  simp only[O.move,PT.dy _ _ _ _ hq]at a
  by_cases e:q=b
  .subst e;rw[PT.du]at a;cases a
  .rw[PT.dy _ _ _ _ e]at a;exact⟨e,a⟩
 have H:∀q fK f s,(Z.move b blk).m.g q=Φ fK->ρ.set Z.nx (r,sz) q=Φ (f,s)->(∃M blk0 X,Z.m.g M=Φ blk0/\ρ M=Φ (f,X))\/w.heap.size<=f:=λq fK f s a c=>by
  by_cases e:q=Z.nx
  .subst e;rw[Ren.eZ]at c;cases c;exact .inl ⟨b,blk0,sz,y,l⟩
  .rw[Ren.dF _ _ _ _ e]at c;obtain⟨_,a⟩:=j q fK e a;exact .inl ⟨q,fK,s,a,c⟩
 have Y:∀k:Nat,k<w.heap.size->(∀b blk sz,Z.m.g b=Φ blk->ρ b≠Φ (k,sz))->w'.heap[k]?=w.heap[k]?:=λk _ hn=>L k (λe=>hn b blk0 sz y (by rw[l,e]));refine⟨⟨λq fK r' s' a C=>?_,λq i D F f s s' a c p n=>?_,λq x d=>?_⟩,u,λq hq hn=>abx,?_,H,Y,J,G,W⟩
 .by_cases e:q=Z.nx
  .subst e;simp only[O.move,PT.du,S2]at a;subst a;rw[Ren.eZ]at C;cases C;exact⟨o,P,Q⟩
  .obtain⟨z,a⟩:=j q fK e a;rw[Ren.dF _ _ _ _ e]at C;obtain⟨N,T,S⟩:=h.at' q fK r' s' a C;refine⟨N,?_,S.mono u⟩;rw[L r' (λe'=>z (h.inj q b fK blk0 r s' sz a y (by rw[C,e']) l))];exact T
 .by_cases e:q=Z.nx
  .by_cases e':i=Z.nx
   .rw[e,e']
   .rw[e,Ren.eZ]at p;cases p;rw[Ren.dF _ _ _ _ e']at n;obtain⟨z,c⟩:=j i F e' c;exact absurd (h.inj i b F blk0 r s' sz c y n l) z
  .by_cases e':i=Z.nx
   .rw[e',Ren.eZ]at n;cases n;rw[Ren.dF _ _ _ _ e]at p;obtain⟨z,a⟩:=j q D e a;exact absurd (h.inj q b D blk0 r s sz a y p l) z
   .rw[Ren.dF _ _ _ _ e]at p;rw[Ren.dF _ _ _ _ e']at n;exact h.inj q i D F f s s' (j q D e a).2 (j i F e' c).2 p n
 .show q<(Z.nx+1)
  by_cases e:q=Z.nx
  .subst e;omega
  .rw[Ren.dF _ _ _ _ e]at d;have:=h.fresh q x d;omega
 .show Z.nx<=(Z.nx+1);omega
end
section
variable {v:K}{ρ:Ren}{Z:O}{s:δ K}{t:TypeId}{g:Bool}{r sz:Nat}{v':Value}
def IK (j k:IntKind):decide (j=k)=θ↔j=k:=V
abbrev zeq (x y:Int):Bool:=decide (x=y)
def Ay (x y:Int):zeq x y=θ↔x=y:=V
def lr (a:BinOp)(k:IntKind)(x y:Int):υ Int:=
 match a with
 | .and=>Φ (k.wrap (BitVec.ofInt k.bits x&&&BitVec.ofInt k.bits y).toNat)
 | .or=>Φ (k.wrap (BitVec.ofInt k.bits x|||BitVec.ofInt k.bits y).toNat)
 | .xor=>Φ (k.wrap (BitVec.ofInt k.bits x^^^BitVec.ofInt k.bits y).toNat)
 | .andNot=>Φ (k.wrap (BitVec.ofInt k.bits x&&& ~~~BitVec.ofInt k.bits y).toNat)
 |_=>ν
def zO (P:Program)(w:World)(a:BinOp)(k:IntKind)(x y r:Int)(h:lr a k x y=Φ r):
 (Op.intBits a k x y).run P w=.ok (.int k r) w:=by
 cases a<;>simp only[lr,S2,reduceCtorEq]at h<;>subst h<;>rfl
def K.isAny (v:K):Bool:=match v with| .any=>θ|_=>φ
def K.bY (v:K):δ K:=
 match v with
 | .agg s=>s
 |v=>[v]
def HP (h:∀s,v≠ .agg s):v.bY=[v]:=by
 cases v<;>first|rfl|exact absurd rfl (h _)
def lJ (g o i:Nat):(⟨g,o,ν⟩:Addr).add i=⟨g,o+i,ν⟩:=by unfold Addr.add;split<;>simp_all
def eE (P:Program)(w:World)(r o n:Nat)(c:Array Value)(t:TypeId)(d:Nat×Nat)(h:w.heap[r]?=Φ (.cells c t d))(e:o+n<=c.size):
 (loadCells ⟨r,o,ν⟩ n).run P w=.ok ((c.toList.drop o).take n).toArray w:=by
 have b:((c.toList.drop o).take n).length=n:=xI
 have:=run_loadCells_list (P:=P) w ⟨r,o,ν⟩ ((c.toList.drop o).take n) (λj v a=>by
  rw[lJ];rw[ý]at a
  split at a
  .rw[aNS]at a;simp only[World.cell?,h]
   simpa using a
  .cases a)
 rw[b]at this;exact this
def pz (P:Program)(w:World)(r o:Nat)(c:Array Value)(t:TypeId)(b:Nat×Nat)(v:Value)(h:w.heap[r]?=Φ (.cells c t b))(a:c.toList[o]?=Φ v):
 (load ⟨r,o,ν⟩).run P w=.ok v w:=by
 have:w.cell? ⟨r,o,ν⟩=Φ v:=by simp only[World.cell?,h];simpa using a
 rw[run_load,this]
def ir (P:Program)(g o:Nat)(t:TypeId)(lo hi:Nat):∀(a:δ Value) (i:Nat) (cur:Array Value) (w:World),w.heap[g]?=Φ (.cells cur t (lo,hi))->
 (∀k,k<cur.size->¬(lo<=k/\k<hi))->o+i+a.length<=cur.size->(∀v∈a,v.oneCell'=θ)->
 (storeCells ⟨g,o,ν⟩ a i).run P w=.ok () (w.setRow g (cur.toList.take (o+i)++a++cur.toList.drop (o+i+a.length)).toArray)
 |[],i,cur,w,hg,_,_,_=>by
  simp only[storeCells,zo,IR,rc,CV,Ä];rw[setRow_self w g cur t (lo,hi) hg]
  rfl
 |v::rest,i,cur,w,hg,b,hl,h1=>by
  have f:o+i<cur.size:=by simp at hl;omega
  have j:w.cell? ⟨g,o+i,ν⟩=Φ cur[o+i]:=by simp[World.cell?,hg,f]
  have d:w.frozen? ⟨g,o+i,ν⟩=φ:=by
   have:=b (o+i) f;simp only[World.frozen?,hg,Bool.and_eq_false_iff,aNa];omega
  have c:(store ((⟨g,o,ν⟩:Addr).add i) v).run P w=.ok () (w.setRow g (cur.setIfInBounds (o+i) v)):=by
   rw[lJ,run_store P w _ v _ (h1 v V),j];simp[d,setCell_eq_setRow w g (o+i) cur t (lo,hi) v hg]
  have l:=ir P g o t lo hi rest (i+1) (cur.setIfInBounds (o+i) v) (w.setRow g (cur.setIfInBounds (o+i) v)) (setRow_heap w g cur _ t _ hg)
   (by simpa using b) (by simp at hl⊢;omega) (λx hx=>h1 x Hs)
  simp only[storeCells,Ψ,c,Ξ,l,setRow_setRow]
  congr 3
  have e:=list_seg_step cur.toList (o+i) v rest (by simp at hl⊢;omega)
  simpa[Array.toList_setIfInBounds,ç]using e
def py (w:World)(g:Nat)(c:Array Value)(k:Nat)(h:k≠g):(w.setRow g c).heap[k]?=w.heap[k]?:=by
 unfold World.setRow;simp only[Array.getElem?_modify];rw[B (λe=>h e.symm)]
def qJ (w:World)(g:Nat)(c:Array Value):(w.setRow g c).heap.size=w.heap.size:=by
 unfold World.setRow;simp
def WR.row {w:World}(h:WR ρ Z w){b:Nat}(d:Z.m.g b=Φ (.cells s t g))(a:ρ b=Φ (r,sz)):
 ∃c lo hi,w.heap[r]?=Φ (.cells c t (lo,hi))/\c.size=sz/\s.length<=sz/\fp ρ s (c.toList.take s.length)/\(∀k,k<c.size->¬(lo<=k/\k<hi)):=by
 obtain⟨o,f,e⟩:=h.at' b _ r sz d a;cases e with
 |cells _ _ _ c lo hi hlen hc hf hg=>exact⟨c,lo,hi,f,rfl,hlen,hc,hf⟩
def WR.RD {w:World}(h:WR ρ Z w){b:Nat}{a:Obj}(e:Z.m.g b=Φ (.ro s a))(d:ρ b=Φ (r,sz)):
 ∃c t lo hi,w.heap[r]?=Φ (.cells c t (lo,hi))/\c.size=sz/\s.length<=sz/\fp ρ s (c.toList.take s.length):=by
 obtain⟨o,i,f⟩:=h.at' b _ r sz e d;cases f with
 |ro _ c t lo hi hlen hc=>exact⟨c,t,lo,hi,i,rfl,hlen,hc⟩
def WR.abi {w:World}(h:WR ρ Z w){b:Nat}(f:Z.m.g b=Φ (.cells s t g))(e:ρ b=Φ (r,sz)){c:Array Value}{lo hi:Nat}(d:w.heap[r]?=Φ (.cells c t (lo,hi))):g=φ->∀k,¬(lo<=k/\k<hi):=by
 obtain⟨o,a,i⟩:=h.at' b _ r sz f e;rw[d]at a;cases a;cases i with
 |cells _ _ _ c lo hi hlen hc hf hg=>exact hg
def VR.bY (h:VR ρ v v')(d:v.isAny=φ):fp ρ (v.bY) v'.cells.toList:=by
 by_cases c:∃s,v=.agg s
 .obtain⟨s,rfl⟩:=c;cases h with
  |agg s l hl h=>exact⟨by simpa[K.bY,Value.cells]using hl,λi v v' a b=>h i v v' a (by simpa[Value.cells]using b)⟩
 .rw[HP (λs e=>c ⟨s,e⟩)];have:v'.cells= #[v']:=by cases h<;>first|rfl|(cases d;done)|exact absurd ⟨_,rfl⟩ c
  rw[this];exact fp.cons h (fp.nil ρ)
def VR.GN {l:δ Value}(h:fp ρ s l):VR ρ (.agg s) (.agg l.toArray):=.agg s l h.len h.at'
def VR.tuple' {l:δ Value}(h:fp ρ s l):VR ρ (.tuple s) (.tuple l.toArray):=.tuple s l h.len h.at'
def fp.get {l:δ K}{a:δ Value}(h:fp ρ l a){i:Nat}(b:l[i]?=Φ v):∃v',a[i]?=Φ v'/\VR ρ v v':=by
 have hi:i<l.length:=by
  rcases wl i l.length with h|h
  .exact h
  .simp[In h]at b
 have:=h.len▸hi;exact⟨a[i],V,h.at' i v _ b V⟩
def cI (v:K):Bool:=match v with| .agg _| .tuple _| .undef| .any=>φ|_=>θ
def bh (s:δ K):Bool:=s.all cI
def pD (h:VR ρ v v')(a:cI v=θ):v'.oneCell'=θ:=by
 cases h<;>first|rfl|(simp[cI]at a)
def Ea {x:K}(h:bh x.bY=θ):x.isAny=φ:=by
 cases x<;>first|rfl|(simp[bh,K.bY,cI]at h)
def pC (s:δ K)(h:bh s=θ):∀v∈s,cI v=θ:=by simpa[bh]using h
def br.write {P:Program}{w:World}(h:WR ρ Z w){b:Nat}{t s':δ K}{ty:TypeId}{off:Nat}{a:δ Value}
 (n:Z.m.g b=Φ (.cells s ty g)) (j:ρ b=Φ (r,sz)) (D:eB s off t=Φ s') (f:fp ρ t a) (F:bh t=θ):
 ∃w',(storeCells ⟨r,off,ν⟩ a).run P w=.ok () w'/\br ρ Z w ρ (Z.set b (.cells s' ty g)) w':=by
 obtain⟨c,lo,hi,o,e2,M,x,e5⟩:=h.row n j;obtain⟨L,q⟩:=zU D;have d:a.length=t.length:=by rw[<-f.len]
 have z:∀v∈a,v.oneCell'=θ:=λv G=>by
  obtain⟨i,I,rfl⟩:=Di G;have:=f.len▸I;exact pD (f.at' i t[i] _ V V) (pC t F _ (mp _))
 have C:=ir P r off ty lo hi a 0 c w o e5 J z;refine⟨_,C,?_⟩
 have p:s'.length=s.length:=by
  have:=congrArg List.length (q);simp only[km,pu,st]at this;omega
 have y:=setRow_heap w r c (c.toList.take (off+0)++a++c.toList.drop (off+0+a.length)).toArray ty (lo,hi) o
 have tF:(c.toList.take (off+0)++a++c.toList.drop (off+0+a.length)).toArray.size=sz:=by
  simp only[aNE,km,pu,st,þ];omega
 refine br.set h n j y ?_ (λk H=>py w r _ k H) (qJ w r _) rfl rfl;have u:=BR.cells (ρ:=ρ) s' ty g (c.toList.take (off+0)++a++c.toList.drop (off+0+a.length)).toArray lo hi (by rw[tF,p];omega) ?_ adI (h.abi n j o)
 .rw[tF]at u;exact u
 .have:=q;rw[p,this]
  have e:(c.toList.take (off+0)++a++c.toList.drop (off+0+a.length)).toArray.toList.take s.length=(c.toList.take s.length).take off++(a++(c.toList.take s.length).drop (off+t.length)):=by
   simp only[rc,we,d];rw[WF,WF,AQ,AQ,Nat.min_comm off s.length,lw (l:=a) xI];rw[St,pu,d,þ (xs:=c),show s.length-min off c.size-t.length=s.length-(off+t.length) from J]
  rw[e];exact(x.take off).app (f.app (x.drop _))
end
section
variable {tmps:Array Value}{v':Value}{c x:K}{s:Sem Value}{t:TypeId}{i:Nat}{x':Value}{n:Nat}{p:K}{p':Value}
abbrev Fr:=PT K
inductive fy where
 |tmp (p:Nat)
 |const (v:K)
def fZ (fr:Fr)(p:Nat):K:=Option.rec .undef (λv=>v) (fr.g p)
def ev (fr:Fr)(x:fy):K:=fy.rec (λp=>fZ fr p) (λv=>v) x
def FR (ρ:Ren)(fr:Fr)(tmps:Array Value):Prop:=∀t,VR ρ (fZ fr (t)) (tmps.getD t Go.undef)
def FR.mono {ρ a:Ren}(b:ρ.le a){fr:Fr}(h:FR ρ fr tmps):FR a fr tmps:=λt=>(h t).mono b
def nO (fr:Fr)(p:Nat)(v:K):fZ (fr.put p (Φ v)) p=v:=by unfold fZ;rw[PT.du]
def oG (fr:Fr)(p q:Nat)(x:υ K)(h:q≠p):fZ (fr.put p x) q=fZ fr q:=by unfold fZ;rw[PT.dy _ _ _ _ h]
def FR.put {ρ:Ren}{fr:Fr}(h:FR ρ fr tmps){d:Nat}(b:d<tmps.size){v:K}(a:VR ρ v v'):
 FR ρ (fr.put (d) (Φ v)) (tmps.setIfInBounds d v'):=by
 intro t
 by_cases e:t=d
 .subst e;rw[nO]
  simpa[b]using a
 .rw[oG _ _ _ _ (λe'=>e (e'))];have:(tmps.setIfInBounds d v').getD t Go.undef=tmps.getD t Go.undef:=by simp[Xj (ny e)]
  rw[this];exact h t
def kN (v:Value):υ K:=
 match v with
 | .bool b=>Φ (.bool b)
 | .int k n=>Φ (.int k n)
 | .string s=>Φ (.str s.data.toList)
 | .pointer none=>Φ .bq
 | .slice none 0 0=>Φ .ae
 | .map none=>Φ .gM
 | .func fn f c=>bF (Bool.and f.isEmpty c.isEmpty) (Φ (.func fn .nil .nil)) ν
 | .nilFunc=>Φ .nK
 | .nilIface=>Φ .eH
 | .tuple c=>bF c.isEmpty (Φ .undef) ν
 |_=>ν
def VR.kN {v:Value}(h:kN v=Φ c)(ρ:Ren):VR ρ c v:=by
 unfold Lim.kN at h
 split at h<;>try (cases h;done)
 .cases h;exact .bool _
 .cases h;exact .int _ _
 .cases h;rename_i s;have:=VR.str (ρ:=ρ) s.data.toList;rw[lZ]at this;exact this
 .cases h;exact .bq
 .cases h;exact .ae
 .cases h;exact .gM
 .rename_i fn f c;rw[aS]at h
  split at h
  .rename_i hc;cases h;simp only[mZ,Array.isEmpty_iff]at hc;rw[hc.1,hc.2];exact VR.func fn .nil .nil [] [] rfl rfl (λi v v' h=>Vu) (λi v v' h=>Vu)
  .cases h
 .cases h;exact .nK
 .cases h;exact .eH
 .rename_i c;rw[aS]at h
  split at h
  .rename_i hc;cases h;simp only[Array.isEmpty_iff]at hc;rw[hc];exact .undef
  .cases h
def sP (l:δ Value):υ (δ K):=
 List.rec (Φ .nil) (λv _ r=>Option.rec ν (λr=>Option.rec ν (λc=>Φ (c.bY++r)) (kN v)) r) l
def ofValue (v:Value):υ K:=
 match v with
 | .agg cs=>Option.rec ν (λs=>Φ (.agg s)) (sP cs.toList)
 |v=>kN v
def FX {v:Value}(h:kN v=Φ c):∀s,c≠ .agg s:=by
 intro s e;subst e;unfold kN at h
 split at h<;>first|(cases h;done)|(rw[aS]at h;split at h<;>cases h)
def yk:∀(l:δ Value) (s:δ K),sP l=Φ s->∀ρ,fp ρ s l:=by
 intro l
 induction l with
 |nil=>intro s h ρ;cases h;exact fp.nil ρ
 |cons v l b=>
  intro s h ρ;have e:sP (v::l)=Option.rec ν (λr=>Option.rec ν (λc=>Φ (c.bY++r)) (kN v)) (sP l):=rfl;rw[e]at h;cases hl:sP l with
  |none=>rw[hl]at h;cases h
  |some r=>
   rw[hl]at h;cases a:kN v with
   |none=>rw[a]at h;cases h
   |some c=>
    rw[a]at h;cases h;rw[HP (FX a)];exact fp.cons (VR.kN a ρ) (b r hl ρ)
def VR.ofValue {v:Value}(h:ofValue v=Φ c)(ρ:Ren):VR ρ c v:=by
 unfold Lim.ofValue at h
 split at h
 .rename_i cs;cases hc:sP cs.toList with
  |none=>rw[hc]at h;cases h
  |some s=>
   rw[hc]at h;cases h;exact VR.GN (yk _ s hc ρ)
 .exact VR.kN h ρ
def fI (x:Operand):υ fy:=
 match x with
 | .tmp t=>Φ (.tmp (t))
 | .const v=>Option.rec ν (λc=>Φ (.const c)) (ofValue v)
 | .func f=>Φ (.const (.func (.func f) .nil .nil))
 | .global _=>ν
def bu {x:Operand}{c:fy}(h:fI x=Φ c){ρ:Ren}{fr:Fr}{a:Act}(d:FR ρ fr a.tmps):VR ρ (ev fr c) (a.eval x):=by
 cases x with
 |tmp t=>cases h;exact d t
 |const v=>
  have e:fI (.const v)=Option.rec ν (λc=>Φ (.const c)) (ofValue v):=rfl;rw[e]at h;cases b:ofValue v with
  |none=>rw[b]at h;cases h
  |some c'=>rw[b]at h;cases h;exact VR.ofValue b ρ
 |func f=>cases h;exact VR.func _ .nil .nil [] [] rfl rfl (λi v v' h=>Vu) (λi v v' h=>Vu)
 |global g=>cases h
inductive OR where
 |ok (v:K) (Z:O)
 |bad
def bH (P:Program)(s:Sem Value)(ρ:Ren)(Z:O)(w:World)(v:K)(Z':O):Prop:=
 ∃v' w' a,s.run P w=.ok v' w'/\VR a v v'/\br ρ Z w a Z' w'
def ES (P:Program)(s:Sem Unit)(ρ:Ren)(Z:O)(w:World)(v:K)(Z':O):Prop:=
 ∃w' a,s.run P w=.ok () w'/\v=.undef/\br ρ Z w a Z' w'
def MO (P:Program)(s:Sem Next)(ρ:Ren)(Z:O)(w:World)(v:K)(Z':O):Prop:=
 ∃x v' w' a,s.run P w=.ok x w'/\(x=.value v'\/(x=.skip/\v'=Go.undef))/\VR a v v'/\br ρ Z w a Z' w'
section
variable {P:Program} {ρ:Ren} {Z Z':O} {w:World} {v:K}
def bH.still (a:WR ρ Z w)(h:s.run P w=.ok v' w)(b:VR ρ v v'):bH P s ρ Z w v Z:=⟨v',w,ρ,h,b,br.refl a⟩
def bH.ji (h:bH P s ρ Z w v Z'):MO P (do pure (Next.value (<-s))) ρ Z w v Z':=by
 obtain⟨v',w',a,h1,d,b⟩:=h;exact⟨.value v',v',w',a,à,.inl rfl,d,b⟩
def ES.ji {s:Sem Unit}(h:ES P s ρ Z w v Z'):MO P (do s;pure Next.skip) ρ Z w v Z':=by
 obtain⟨w',a,h1,rfl,b⟩:=h;exact⟨.skip,Go.undef,w',a,à,.inr ⟨rfl,rfl⟩,.undef,b⟩
def bg (c a b:K)(Z:O):OR:=match c with| .bool t=>bF t (.ok a Z) (.ok b Z)|_=>.bad
def Io {a b:K}{g e d:Value}(h:bg c a b Z=.ok v Z')(f:WR ρ Z w)(j:VR ρ c g)(l:VR ρ a e)(k:VR ρ b d):
 MO P (do pure (Next.value (if<-asBool g then e else d))) ρ Z w v Z':=by
 unfold bg at h
 split at h
 .rename_i t;cases j;cases t with
  |true=>cases h;exact⟨_,e,w,ρ,by simp[asBool],.inl rfl,l,br.refl f⟩
  |false=>cases h;exact⟨_,d,w,ρ,by simp[asBool],.inl rfl,k,br.refl f⟩
 .cases h
def br.newRow {s:δ K}{l:δ Value}(hw:WR ρ Z w)(m:∀a,ρ.le a->fp a s l)(g:Bool):
 ∃a,(newRow t l.toArray).run P w=.ok ⟨w.heap.size,0,ν⟩ {w with heap:=w.heap.push (.cells l.toArray t)}/\
  a Z.nx=Φ (w.heap.size,l.length)/\br ρ Z w a (Z.new (.cells s t g)) {w with heap:=w.heap.push (.cells l.toArray t)}:=by
 have jg:∀b x,ρ b=Φ x->b≠Z.nx:=λb x hx e=>aaG
 have f:ρ.le (ρ.set Z.nx (w.heap.size,l.length)):=λb _ hr=>aaH
 have j:=m _ f;have d:s.length=l.length:=by rw[j.len]
 have hb:=BR.cells (ρ:=ρ.set Z.nx (w.heap.size,l.length)) s t g l.toArray 0 0 (by simp[d]) (by
  rw[d];simpa using j) J (by intros;omega)
 have k:=br.new hw (blk:=.cells s t g) (o:=.cells l.toArray t) (sz:=l.length) ael;exact⟨_,rfl,k.2,k.1⟩
def cK (t:TypeId)(s:δ K)(Z:O):OR:=.ok (.ptr Z.nx 0) ⟨Z.m.put Z.nx (Φ (.cells s t φ)),Z.nx+1⟩
def Nd (t:TypeId)(s:δ K)(Z:O):cK t s Z=.ok (.ptr Z.nx 0) (Z.new (.cells s t φ)):=by
 rfl
def FV {z:δ K}{i:TypeInfo}{b:Value}(h:cK t z Z=.ok v Z')(g:WR ρ Z w)(hi:P.info? t=Φ i)(f:i.zero=Φ b)
 (j:∀ρ,fp ρ z b.cells.toList):bH P (Instr.alloc t θ (.tuple #[])) ρ Z w v Z':=by
 rw[Nd]at h;cases h;obtain⟨a,e,k,d⟩:=br.newRow (P:=P) (t:=t) g (λa _=>j a) φ;rw[Ä]at e d;refine⟨.pointer (Φ ⟨w.heap.size,0,ν⟩),_,a,?_,.ptr _ _ _ _ k,d⟩;simp[Instr.alloc,zeroValue,typeInfo,hi,f,newVar,e]
def LC (h:bF x.isAny .bad (cK t x.bY Z)=.ok v Z')(j:WR ρ Z w)(g:VR ρ x x'):
 bH P (Instr.box t x') ρ Z w v Z':=by
 rw[aS]at h
 split at h
 .cases h
 rename_i b;rw[Nd]at h;cases h;obtain⟨a,f,k,e⟩:=br.newRow (P:=P) (t:=t) j (λa d=>(g.mono d).bY (by simpa using b)) φ;rw[Ä]at f e;refine⟨.pointer (Φ ⟨w.heap.size,0,ν⟩),_,a,?_,.ptr _ _ _ _ k,e⟩;simp[Instr.box,newVar,f]
def aw (p:K)(Z:O):OR:=
 match p with
 | .ptr b off=>(match Z.m.g b with
   |some (.cells s _ _)=>Option.rec .bad (λv=>.ok v Z) (s[off]?)
   |some (.ro s _)=>Option.rec .bad (λv=>.ok v Z) (s[off]?)
   |_=>.bad)
 |_=>.bad
def aF (n:Nat)(p:K)(Z:O):OR:=
 match p with
 | .ptr b off=>(match Z.m.g b with
   |some (.cells s _ _)=>Option.rec .bad (λv=>.ok (.agg v) Z) (iv s off n)
   |some (.ro s _)=>Option.rec .bad (λv=>.ok (.agg v) Z) (iv s off n)
   |_=>.bad)
 |_=>.bad
def u7 {s:δ K}{l:δ Value}(h:fp ρ s l){off:Nat}(a:s[off]?=Φ x):∃x',l[off]?=Φ x'/\VR ρ x x':=by
 exact h.get a
def xN {l:δ Value}{x:Value}(h:(l.take n)[i]?=Φ x):l[i]?=Φ x:=by
 rw[ý]at h;split at h
 .exact h
 .cases h
def FM (h:aw p Z=.ok v Z')(a:WR ρ Z w)(o:VR ρ p p')(m:(isAgg t).run P w=.ok φ w):
 bH P (Instr.loadAt t p') ρ Z w v Z':=by
 unfold aw at h
 split at h
 .rename_i b off
  split at h
  .rename_i s d g hm;cases hx:s[off]? with
   |none=>rw[hx]at h;cases h
   |some x=>
    rw[hx]at h;cases h;cases o with
    |ptr _ _ r sz e=>
     obtain⟨c,lo,hi,l,u,q,k,y⟩:=a.row hm e;obtain⟨x',j,f⟩:=u7 k hx;refine bH.still a ?_ f;simp[Instr.loadAt,Instr.sureAddr,loadVar,m,pz P w r off c d (lo,hi) x' l (xN j),-run_load]
  .rename_i s o0 hm;cases hx:s[off]? with
   |none=>rw[hx]at h;cases h
   |some x=>
    rw[hx]at h;cases h;cases o with
    |ptr _ _ r sz e=>
     obtain⟨c,d,lo,hi,l,u,q,k⟩:=a.RD hm e;obtain⟨x',j,f⟩:=u7 k hx;refine bH.still a ?_ f;simp[Instr.loadAt,Instr.sureAddr,loadVar,m,pz P w r off c d (lo,hi) x' l (xN j),-run_load]
  .cases h
 .cases h
def FL (h:aF n p Z=.ok v Z')(a:WR ρ Z w)(o:VR ρ p p')(m:(isAgg t).run P w=.ok θ w)
 (q:(Go.sizeOf t).run P w=.ok n w):bH P (Instr.loadAt t p') ρ Z w v Z':=by
 unfold aF at h
 split at h
 .rename_i b off
  split at h
  .rename_i s d g hm;cases hx:iv s off n with
   |none=>rw[hx]at h;cases h
   |some x=>
    rw[hx]at h;cases h;cases o with
    |ptr _ _ r sz f=>
     obtain⟨c,lo,hi,l,z,y,k,C⟩:=a.row hm f;obtain⟨u,j⟩:=ld hx;refine bH.still a (v':=.agg ((c.toList.drop off).take n).toArray) ?_ (VR.GN ?_)
     .simp[Instr.loadAt,Instr.sureAddr,loadVar,m,q,eE P w r off n c d (lo,hi) l J]
     .rw[show x=(s.drop off).take n from j]
      have e:(c.toList.drop off).take n=((c.toList.take s.length).drop off).take n:=by
       rw[St,AQ,us J]
      rw[e];exact(k.drop off).take n
  .rename_i s o0 hm;cases hx:iv s off n with
   |none=>rw[hx]at h;cases h
   |some x=>
    rw[hx]at h;cases h;cases o with
    |ptr _ _ r sz f=>
     obtain⟨c,d,lo,hi,l,z,y,k⟩:=a.RD hm f;obtain⟨u,j⟩:=ld hx;refine bH.still a (v':=.agg ((c.toList.drop off).take n).toArray) ?_ (VR.GN ?_)
     .simp[Instr.loadAt,Instr.sureAddr,loadVar,m,q,eE P w r off n c d (lo,hi) l J]
     .rw[show x=(s.drop off).take n from j]
      have e:(c.toList.drop off).take n=((c.toList.take s.length).drop off).take n:=by
       rw[St,AQ,us J]
      rw[e];exact(k.drop off).take n
  .cases h
 .cases h
def aJ (n:Nat)(p x:K)(Z:O):OR:=
 match p with
 | .ptr b off=>(match Z.m.g b with
   |some (.cells s t g)=>(λxs=>bF (Bool.and (Nat.beq xs.length n) (bh xs)) (Option.rec .bad (λs'=>.ok .undef ⟨Z.m.put b (Φ (.cells s' t g)),Z.nx⟩) (eB s off xs)) .bad) x.bY
   |_=>.bad)
 |_=>.bad
def FI (h:aJ n p x Z=.ok v Z')(d:WR ρ Z w)(f:VR ρ p p')(a:VR ρ x x')
 (j:(Go.sizeOf t).run P w=.ok n w):ES P (Instr.storeAt t p' x') ρ Z w v Z':=by
 unfold aJ at h
 split at h
 .rename_i b off
  split at h
  .rename_i s o g hm;simp only[aS,mZ,md]at h
   split at h
   .rename_i hc;cases hs:eB s off x.bY with
    |none=>rw[hs]at h;cases h
    |some s'=>
     rw[hs]at h;cases h;cases f with
     |ptr _ _ r sz e=>
      obtain⟨w',m,l⟩:=br.write (P:=P) d hm e hs (a.bY (Ea hc.2)) hc.2;refine⟨w',ρ,?_,rfl,l⟩;have k:x'.cells.size=n:=by have:=(a.bY (Ea hc.2)).len;rw[hc.1]at this;simpa using this.symm
      simp[Instr.storeAt,Instr.sureAddr,storeVar,j,k,m]
   .cases h
  .cases h
 .cases h
def df (x:K)(Z:O):OR:=match x with| .ptr .. | .iface .. | .func (.func _) _ _=>.ok x Z|_=>.bad
def Ly (h:df x Z=.ok v Z')(d:WR ρ Z w)(a:VR ρ x x'){o:Oper}{y:Operand}{f:Operand->Value}(j:o.op=.nilCheck y)(b:f y=x'):
 MO P (execOp f o) ρ Z w v Z':=by
 unfold df at h
 have key:∀{z:Value},f y=z->(match z with| .pointer none| .nilIface| .nilFunc| .func (.method _) _ _=>False|_=>True)->(execOp f o).run P w=.ok (.value z) w:=by
  intro z g k;unfold execOp;rw[j];simp only[g]
  split<;>first|(exact k.elim)|rfl
 split at h
 .cases h;cases a with|ptr _ _ _ _ e=>exact⟨_,_,w,ρ,key b trivial,.inl rfl,.ptr _ _ _ _ e,br.refl d⟩
 .cases h;cases a with|iface _ _ _ e=>exact⟨_,_,w,ρ,key b trivial,.inl rfl,.iface _ _ _ e,br.refl d⟩
 .cases h;have l:=a;cases a with|func _ _ _ f' c' hf hc h1 h2=>exact⟨_,_,w,ρ,key b trivial,.inl rfl,l,br.refl d⟩
 .cases h
def az (x:K)(i:Nat)(Z:O):OR:=match x with| .tuple s=>Option.rec .bad (λv=>.ok v Z) (s[i]?)|_=>.bad
def Bm (h:az x i Z=.ok v Z')(b:WR ρ Z w)(a:VR ρ x x'):bH P (Instr.extract x' i) ρ Z w v Z':=by
 unfold az at h
 split at h
 .rename_i s;cases hs:s[i]? with
  |none=>rw[hs]at h;cases h
  |some y=>
   rw[hs]at h;cases h;cases a with
   |tuple _ l hl hh=>
    obtain⟨y',e,d⟩:=u7 (ρ:=ρ) (s:=s) ⟨hl,hh⟩ hs;refine bH.still b ?_ d;simp[Instr.extract,e]
 .cases h
end
end
section
variable {s:δ K}{t:TypeId}{i:TypeInfo}{u:TypeDesc}{n:Nat}{s2:δ K}{l2:δ Value}
mutual
inductive lB where
 |bool|int|str|ptr|iface|slice|map|func
 |bytes (len:Nat)
 |struct (fs:î)
 |array (len size:Nat) (agg:Bool) (e:lB)
inductive î where
 |nil
 |cons (off size:Nat) (agg:Bool) (d:lB) (r:î)
end
def VF (v:K):υ Γ:=match v with| .int .u8 (.ofNat n)=>if n<256 then Φ (.ofNat n)else ν|_=>ν
def Ka:δ K->υ (δ Γ)
 |[]=>Φ []
 |v::r=>match VF v,Ka r with|some b,some l=>Φ (b::l)|_,_=>ν
def Ko (b:Γ):VF (bG b)=Φ b:=by
 have h:b.toNat<256:=b.toNat_lt;show(if b.toNat<256 then Φ (UInt8.ofNat b.toNat)else ν)=Φ b;rw[gq h];simp
def EY (l:δ Γ):Ka (l.map bG)=Φ l:=by
 induction l with
 |nil=>rfl
 |cons b l a=>simp[Ka,Ko,a]
def OM {v:K}{b:Γ}(h:VF v=Φ b):v=bG b:=by
 unfold VF at h
 split at h
 .rename_i n
  split at h
  .rename_i hn;cases h;show K.int .u8 (.ofNat n)=.int .u8 (.ofNat (UInt8.ofNat n).toNat);rw[aNT,QF J]
  .cases h
 .cases h
def xM:∀{s:δ K} {l:δ Γ},Ka s=Φ l->s=l.map bG:=by
 intro s
 induction s with
 |nil=>intro l h;cases h;rfl
 |cons v r a=>
  intro l h;simp only[Ka]at h
  split at h
  .rename_i b l' h1 h2;cases h;rw[pw,OM h1,<-a h2]
  .cases h
def fR (a:Bool)(off size:Nat)(s:δ K):υ K:=
 bF a (Option.rec ν (λt=>Φ (.agg t)) (iv s off size)) (s[off]?)
def andThen (a:υ Bool)(b:υ Bool):υ Bool:=Option.rec ν (λt=>bF t b (Φ φ)) a
mutual
def mN:lB->K->K->υ Bool
 | .bool,x,y=>(match x,y with| .bool a,.bool b=>Φ (a==b)|_,_=>ν)
 | .int,x,y=>(match x,y with| .int j a,.int k b=>bF (decide (j=k)) (Φ (decide (a=b))) ν|_,_=>ν)
 | .str,x,y=>(match x,y with| .str a,.str b=>Φ (a==b)|_,_=>ν)
 | .ptr,x,y=>(match x,y with
   | .bq,.bq=>Φ θ
   | .bq,.ptr _ _=>Φ φ
   | .ptr _ _,.bq=>Φ φ
   | .ptr b o,.ptr b' c=>bF (decide (b=b')) (Φ (Nat.beq o c)) ν
   |_,_=>ν)
 | .iface,x,y=>(match x,y with
   | .eH,.eH=>Φ θ
   | .eH,.iface _ _=>Φ φ
   | .iface _ _,.eH=>Φ φ
   |_,_=>ν)
 | .slice,x,y=>(match x,y with
   | .ae,.ae=>Φ θ
   | .ae,.slice .. =>Φ φ
   | .slice ..,.ae=>Φ φ
   |_,_=>ν)
 | .map,x,y=>(match x,y with
   | .gM,.gM=>Φ θ
   | .gM,.map _=>Φ φ
   | .map _,.gM=>Φ φ
   |_,_=>ν)
 | .func,x,y=>(match x,y with
   | .nK,.nK=>Φ θ
   | .nK,.func .. =>Φ φ
   | .func ..,.nK=>Φ φ
   |_,_=>ν)
 | .bytes len,x,y=>(match x,y with
   | .agg s,.agg t=>(match Ka s,Ka t with|some a,some b=>bF (decide (a.length=len)&&decide (b.length=len)) (Φ (a==b)) ν|_,_=>ν)
   |_,_=>ν)
 | .struct fs,x,y=>(match x,y with| .agg s,.agg t=>zE fs s t|_,_=>ν)
 | .array len size agg e,x,y=>(match x,y with
   | .agg s,.agg t=>Nat.rec (motive:=λ_=>Nat->υ Bool) (λ_=>Φ θ)
    (λ_ d off=>Option.rec ν (λa=>Option.rec ν (λb=>andThen (mN e a b) (d (Nat.add off size))) (fR agg off size t)) (fR agg off size s)) len 0
   |_,_=>ν)
def zE:î->δ K->δ K->υ Bool
 | .nil,_,_=>Φ θ
 | .cons off size agg d r,s,t=>Option.rec ν (λa=>Option.rec ν (λb=>andThen (mN d a b) (zE r s t)) (fR agg off size t)) (fR agg off size s)
end
def jB (u:TypeDesc):Bool:=match u with| .struct _| .array _ _=>θ|_=>φ
def qU (P:Program)(a:TypeId->Option lB)(b:List Field):Option î:=
 match b with
 |[]=>some .nil
 |f::r=>
  match decide (f.name= "_"),P.info? f.type,(P.underlying f.type),a f.type,qU P a r with
  |false,some i,some u,some d,some r=>some (.cons f.offset i.size (jB u) d r)
  |_,_,_,_,_=>none
def gO (P:Program):Nat->TypeId->υ lB
 |0,_=>ν
 |n+1,t=>
  match P.underlying t with
  |some .bool=>Φ .bool
  |some (.int _)=>Φ .int
  |some .string=>Φ .str
  |some (.pointer e)=>(match P.info? e with|some i=>bF (Nat.beq i.size 0) ν (Φ .ptr)|none=>ν)
  |some (.interface _)=>Φ .iface
  |some (.slice _)=>Φ .slice
  |some (.map _ _)=>Φ .map
  |some (.func _ _ _)=>Φ .func
  |some (.struct fs)=>bF (P.stoodInHeld t) ν (match qU P (gO P n) fs.toList with|some l=>Φ (.struct l)|none=>ν)
  |some (.array len e)=>
   (match P.info? e,P.underlying e with
   |some i,some (.int .u8)=>bF (Nat.beq i.size 1) (Φ (.bytes len)) ν
   |some i,some u=>(match gO P n e with|some d=>Φ (.array len i.size (jB u) d)|none=>ν)
   |_,_=>ν)
  |_=>ν
section
variable {P:Program} {ρ:Ren} {w:World}
def jF {a:Bool}{off size:Nat}{x:K}(h:fR a off size s=Φ x){l:δ Value}(c:fp ρ s l)
 (hi:P.info? t=Φ i) (j:i.size=size) (g:P.underlying t=Φ u) (k:(jB u)=a):
 ∃x',(part t l.toArray off).run P w=.ok x' w/\VR ρ x x':=by
 have d:(isAgg t).run P w=.ok a w:=by
  subst k;cases u<;>simp[isAgg,kn g,jB]
 unfold fR at h;rw[aS]at h
 split at h
 .rename_i hb;cases he:iv s off size with
  |none=>rw[he]at h;cases h
  |some y=>
   rw[he]at h;cases h;obtain⟨e,b⟩:=ld he;refine⟨.agg ((l.drop off).take size).toArray,?_,VR.GN ?_⟩
   .simp[part,d,hb,Go.sizeOf,typeInfo,hi,j]
   .rw[show y=(s.drop off).take size from b];exact(c.drop off).take size
 .rename_i hb;obtain⟨x',e,b⟩:=u7 c h;have f:a=φ:=by simpa using hb
  exact⟨x',by simp[part,d,f,e],b⟩
def VR.vH {l:δ Γ}{b:Value}(h:VR ρ (.agg (l.map bG)) b):b=.agg (l.map Extern.Stop.cell).toArray:=by
 cases h with
 |agg s m hl hh=>
  congr 2
  apply aNF;intro i;simp only[so]at hl
  by_cases hi:i<l.length
  .have h2:=hh i _ m[i] (by rw[ul,li hi];rfl) V;cases a:m[i]with
   |int k q=>
    rw[a]at h2;cases h2;rw[ul,li hi,li J,a];rfl
   |_=>rw[a]at h2;cases h2
  .rw[In J,In xI]
def GR (P:Program)(w:World)(ρ:Ren)(d:lB)(t:TypeId)(n:Nat):Prop:=
 ∀(x y:K) (x' y':Value) (b:Bool),mN d x y=Φ b->VR ρ x x'->VR ρ y y'->(Op.equalIn n t x' y').run P w=.ok b w
def ME (len size:Nat)(c:Bool)(e:lB)(hi:P.info? t=Φ i)(m:i.size=size)(k:P.underlying t=Φ u)
 (o:(jB u)=c) (F:GR P w ρ e t n)  {l:δ Value} (H:fp ρ s l) (G:fp ρ (row s2) l2):
 ∀(j:Nat) (b:Bool),Nat.rec (motive:=λ_=>Nat->υ Bool) (λ_=>Φ θ)
  (λ_ d off=>Option.rec ν (λa=>Option.rec ν (λb=>andThen (mN e a b) (d (Nat.add off size))) (fR c off size s2)) (fR c off size s)) len (j*size)=Φ b->
  (Op.eqItems n t size l.toArray l2.toArray (List.range' j len)).run P w=.ok b w:=by
 induction len with
 |zero=>intro j b h;cases h;simp[Op.eqItems]
 |succ len d=>
  intro j b h;rw[List.range'_succ];simp only at h;cases hx:fR c (j*size) size s with
  |none=>rw[hx]at h;cases h
  |some x=>
   cases f:fR c (j*size) size s2 with
   |none=>rw[hx,f]at h;cases h
   |some y=>
    rw[hx,f]at h;simp only at h;cases g:mN e x y with
    |none=>rw[g]at h;cases h
    |some q=>
     rw[g]at h;obtain⟨p,C,v⟩:=jF (P:=P) (w:=w) hx H hi m k o;obtain⟨y',z,r⟩:=jF (P:=P) (w:=w) f G hi m k o;have D:=F x y p y' q g v r;simp only[Op.eqItems,Ψ,C,z,D,Ξ];cases q with
     |false=>cases h;simp
     |true=>
      have:=d (j+1) b (by rw[tx,Li];exact h)
      simpa using this
def MD {c:TypeId->Option lB}(H:∀t d,c t=some d->GR P w ρ d t n){l:List Value}(M:fp ρ s l)(L:fp ρ (row s2) l2):
 ∀(e:List Field) (r:î) (b:Bool),qU P c e=some r->zE r s s2=some b->(Op.eqFields n l.toArray l2.toArray e).run P w=.ok b w:=by
 intro e
 induction e with
 |nil=>intro r b h a;cases h;simp only[zE,S2]at a;subst a;simp[Op.eqFields]
 |cons f e F=>
  intro r b h a;simp only[qU]at h
  split at h
  .rename_i i u d r' D hi hu I G;cases h;have k:f.name≠ "_" :=by simpa using D
   simp only[zE]at a;cases hx:fR (jB u) f.offset i.size s with
   |none=>rw[hx]at a;cases a
   |some x=>
    cases g:fR (jB u) f.offset i.size s2 with
    |none=>rw[hx,g]at a;cases a
    |some y=>
     rw[hx,g]at a;simp only at a;cases j:mN d x y with
     |none=>rw[j]at a;cases a
     |some q=>
      rw[j]at a;obtain⟨m,z,p⟩:=jF (P:=P) (w:=w) hx M hi rfl hu rfl;obtain⟨y',v,o⟩:=jF (P:=P) (w:=w) g L hi rfl hu rfl;have C:=H f.type d I x y m y' q j p o;simp only[Op.eqFields,k,ne_eq,not_false_eq_true,ix,Sem.run_bind,z,v,C,Result.andThen_ok];cases q with
      |false=>cases a;simp
      |true=>simpa using F r' b G a
  .cases h
def TY:∀(f:Nat) (t:TypeId) (d:lB),gO P f t=Φ d->∀n,f<n->GR P w ρ d t n:=by
 intro f
 induction f with
 |zero=>intro t d h;cases h
 |succ f N=>
  intro t d h n hn x y x' y' b hb j g;obtain⟨m,rfl⟩:∃m,n=m+1:=⟨n-1,J⟩;simp only[gO]at h
  split at h
  ·
    rename_i c;cases h;simp only[mN]at hb
    split at hb
    .cases j;cases g;cases hb;rename_i a b;rw[run_equalIn_bool' w m t a b c]
    .cases hb
  .rename_i k c;cases h;simp only[mN]at hb
   split at hb
   .rw[aS]at hb
    split at hb
    .rename_i Q;rw[IK]at Q;subst Q;cases j;cases g;cases hb;rw[run_equalIn_int w m t _ _ _ _ c];rfl
    .cases hb
   .cases hb
  .rename_i c;cases h;simp only[mN]at hb
   split at hb
   .cases j;cases g;cases hb;rename_i a b;rw[run_equalIn_string w m t _ _ c]
    congr 1
    rw[Ã,beq_iff_eq,beq_iff_eq,ByteArray.toList_eq,ByteArray.toList_eq];simp[iI]
   .cases hb
  .rename_i e c
   split at h
   .rename_i i hi;rw[aS]at h
    split at h
    .cases h
    .rename_i hz;cases h;have C:i.size≠0:=by simpa using hz
     have hs:(Go.sizeOf e).run P w=.ok i.size w:=adO
     simp only[mN]at hb
     split at hb
     .cases j;cases g;cases hb;simp[Op.equalIn,kn c]
     .cases j;cases g;cases hb;simp[Op.equalIn,kn c]
     .cases j;cases g;cases hb;simp[Op.equalIn,kn c]
     .rename_i b1 o1 b2 o2;rw[aS]at hb
      split at hb
      .rename_i p;simp only[ws]at p;subst p
       cases j with|ptr _ _ r sz hr=>cases g with|ptr _ _ r2 X S=>
        rw[hr]at S;cases S;cases hb
        have e:((⟨r,o1,ν⟩:Addr)==⟨r,o2,ν⟩)=Nat.beq o1 o2:=by
         rw[Ã,beq_iff_eq,md];simp
        simp[Op.equalIn,kn c,hs,C,sameAddr,e]
      .cases hb
     .cases hb
   .cases h
  .rename_i ms c;cases h;simp only[mN]at hb
   split at hb
   .cases j;cases g;cases hb;simp[Op.equalIn,kn c]
   .cases j;cases g;cases hb;simp[Op.equalIn,kn c]
   .cases j;cases g;cases hb;simp[Op.equalIn,kn c]
   .cases hb
  .rename_i e c;cases h;simp only[mN]at hb
   split at hb
   .cases j;cases g;cases hb;simp[Op.equalIn,kn c]
   .cases j;cases g<;>cases hb<;>simp[Op.equalIn,kn c]
   .cases g;cases j<;>cases hb<;>simp[Op.equalIn,kn c]
   .cases hb
  .rename_i k e c;cases h;simp only[mN]at hb
   split at hb
   .cases j;cases g;cases hb;simp[Op.equalIn,kn c]
   .cases j;cases g;cases hb;simp[Op.equalIn,kn c]
   .cases j;cases g;cases hb;simp[Op.equalIn,kn c]
   .cases hb
  .rename_i ps rs vv c;cases h;simp only[mN]at hb
   split at hb
   .cases j;cases g;cases hb;simp[Op.equalIn,kn c]
   .cases j;cases g;cases hb;simp[Op.equalIn,kn c]
   .cases j;cases g;cases hb;simp[Op.equalIn,kn c]
   .cases hb
  ·
    rename_i fs c;rw[aS]at h
    split at h
    .cases h
    .rename_i D;have G:P.stoodInHeld t=φ:=by simpa using D
     split at h
     .rename_i l hl;cases h;simp only[mN]at hb
      split at hb
      .rename_i s1 s2
       cases j with|agg _ l1 M H=>cases g with|agg _ l2 L o=>
        have q:P.fieldsOf t=fs:=by simp[Program.fieldsOf,c]
        rw[run_equalIn_agg w m t _ _ (by rw[q];exact c) G,q];exact MD (λW v F=>N W v F m J) ⟨M,H⟩ ⟨L,o⟩ fs.toList l b hl hb
      .cases hb
     .cases h
  ·
    rename_i len e c
    split at h
    .rename_i i hi I;rw[aS]at h
     split at h
     .rename_i h1;rw[md]at h1;cases h;simp only[mN]at hb
      split at hb
      .rename_i s1 s2
       split at hb
       .rename_i a b2 ha AJ;rw[aS]at hb
        split at hb
        .rename_i p;simp only[mZ,ws]at p;obtain⟨q1,Y⟩:=p;cases hb;have e1:=xM ha;have e2:=xM AJ;subst e1;subst e2;rw[j.vH,g.vH];obtain⟨z,rfl⟩:∃z,m=z+1:=⟨m-1,J⟩;rw[run_equalIn_bytes w z t e _ c I (λw=>by simp[Go.sizeOf,typeInfo,hi,h1]) _ _ q1 Y]
        .cases hb
       .cases hb
      .cases hb
     .cases h
    .rename_i i u jg hi I
     split at h
     .rename_i v F;cases h;simp only[mN]at hb
      split at hb
      .rename_i s1 s2
       cases j with|agg _ l1 M H=>cases g with|agg _ l2 L o=>
        rw[run_equalIn_array w m _ _ c hi,List.range_eq_range'];have T:P.cellsOf e=i.size:=by simp[Program.cellsOf,hi]
        rw[T];have:=ME (P:=P) (w:=w) (ρ:=ρ) len i.size _ v hi rfl I rfl (N e v F m J) (s:=s1) (s2:=s2) (l:=l1) (l2:=l2) ⟨M,H⟩ ⟨L,o⟩ 0 b ael;exact this
      .cases hb
     .cases h
    .cases h
  .cases h
end
end
section
variable {op:BinOp}{t:TypeId}{X Y:Operand}{x y:K}{x':Value}
abbrev Ar (k:IntKind)(Z:O)(r:Nat):OR:=.ok (.int k (r:Int)) Z
def mY (op:BinOp)(k:IntKind)(a b:Int)(Z:O):OR:=
 match op with
 | .add=>.ok (.int k (k.wrap (a+b))) Z
 | .sub=>.ok (.int k (k.wrap (a-b))) Z
 | .mul=>.ok (.int k (k.wrap (a*b))) Z
 | .quo=>if b=0 then .bad else .ok (.int k (k.wrap (Int.tdiv a b))) Z
 | .rem=>if b=0 then .bad else .ok (.int k (Int.tmod a b)) Z
 | .eql=>.ok (.bool (decide (a=b))) Z
 | .neq=>.ok (.bool (!decide (a=b))) Z
 | .lss=>.ok (.bool (decide (a<b))) Z
 | .leq=>.ok (.bool (decide (a<=b))) Z
 | .gtr=>.ok (.bool (decide (b<a))) Z
 | .geq=>.ok (.bool (decide (b<=a))) Z
 | .shl| .shr=>.bad
 |op=>(match lr op k a b with|some r=>.ok (.int k r) Z|none=>.bad)
def lb (op:BinOp)(k:IntKind)(a:Int)(j:IntKind)(b:Int)(Z:O):OR:=
 match op with
 | .shl=>if b<0 then .bad else .ok (.int k (k.wrap (a*2^(min b.toNat k.bits)))) Z
 | .shr=>if b<0 then .bad else .ok (.int k (a.fdiv (2^(min b.toNat k.bits)))) Z
 |op=>if k=j then mY op k a b Z else .bad
section
variable {P:Program} {ρ:Ren} {Z Z':O} {w:World} {v:K}
def A9 (op:BinOp)(t:TypeId)(k:IntKind)(a b r:Int)(c:op=.and\/op=.or\/op=.xor\/op=.andNot)(h:lr op k a b=Φ r):
 (binOp op t (.int k a) (.int k b)).run P w=.ok (.int k r) w:=by
 have:=zO P w op k a b r h;rcases c with rfl|rfl|rfl|rfl<;>simpa[binOp]using this
def LA {k j:IntKind}{a b:Int}(h:lb op k a j b Z=.ok v Z')(g:WR ρ Z w):
 bH P (binOp op t (.int k a) (.int j b)) ρ Z w v Z':=by
 have c:∀{s:Sem Value} {r:Int},s.run P w=.ok (.int k r) w->bH P s ρ Z w (.int k r) Z:=λe=>bH.still g e (.int _ _);have d:∀{s:Sem Value} {r:Bool},s.run P w=.ok (.bool r) w->bH P s ρ Z w (.bool r) Z:=λe=>bH.still g e (.bool _);unfold lb at h
 split at h
 .split at h
  .cases h
  .rename_i hb;cases h;refine c ?_;simp[binOp,Op.shift,hb]
 .split at h
  .cases h
  .rename_i hb;cases h;refine c ?_;simp[binOp,Op.shift,hb]
 .rename_i m i
  split at h
  .rename_i l;subst l;unfold mY at h
   split at h
   .cases h;exact c acL
   .cases h;exact c acL
   .cases h;exact c acL
   .split at h
    .cases h
    .rename_i f;cases h;exact c (by simp[binOp,Op.intDiv,f])
   .split at h
    .cases h
    .rename_i f;cases h;exact c (by simp[binOp,Op.intDiv,f])
   .cases h;exact d (by simp[binOp,Op.intCmp];rfl)
   .cases h;exact d (by simp[binOp,Op.intCmp,bne];rfl)
   .cases h;exact d (by simp only[binOp,Op.intCmp];first|rfl|(simp;done))
   .cases h;exact d (by simp only[binOp,Op.intCmp];first|rfl|(simp;done))
   .cases h;exact d (by simp only[binOp,Op.intCmp];first|rfl|(simp;done))
   .cases h;exact d (by simp only[binOp,Op.intCmp];first|rfl|(simp;done))
   .cases h
   .cases h
   .split at h
    .rename_i r e;cases h;refine c (A9 _ t k a b r ?_ e);cases op<;>simp_all[lr]
    .cases h
  .cases h
def sO (op:BinOp)(a b:δ Γ)(Z:O):OR:=
 match op with
 | .add=>if a.length+b.length<=9223372036854775807 then .ok (.str (a++b)) Z else .bad
 | .eql=>.ok (.bool (a==b)) Z
 | .neq=>.ok (.bool (!(a==b))) Z
 | .lss=>.ok (.bool (Op.bytesLess a b)) Z
 | .leq=>.ok (.bool (Op.bytesLess a b||(a==b))) Z
 | .gtr=>.ok (.bool (!(Op.bytesLess a b||(a==b)))) Z
 | .geq=>.ok (.bool (!(Op.bytesLess a b))) Z
 |_=>.bad
def Hw (a b:δ Γ):iI a++iI b=iI (a++b):=by
 apply ByteArray.ext;show(_:ByteArray).data=_;simp[iI,ByteArray.data_append]
def lX (a:δ Γ):(iI a).toList=a:=by rw[ByteArray.toList_eq];simp[iI]
def Lx {a b:δ Γ}(h:sO op a b Z=.ok v Z')(d:WR ρ Z w):
 bH P (binOp op t (.string (iI a)) (.string (iI b))) ρ Z w v Z':=by
 have c:∀{s:Sem Value} {r:Bool},s.run P w=.ok (.bool r) w->bH P s ρ Z w (.bool r) Z:=λe=>bH.still d e (.bool _);unfold sO at h
 split at h
 .split at h
  .rename_i hle;cases h;refine bH.still d (v':=.string (iI a++iI b)) ?_ (by rw[Hw];exact .str _);have f:IntKind.i64.max=9223372036854775807:=by decide
   have:¬((((iI a).size+(iI b).size:Nat):Int)>IntKind.i64.max):=by
    rw[lY,lY,f];omega
   simp only[binOp,Op.stringOp];rw[B this];rfl
  .cases h
 .cases h;exact c Yt
 .cases h;exact c Yt
 .cases h;exact c Yt
 .cases h;exact c Yt
 .cases h;exact c Yt
 .cases h;exact c Yt
 .cases h
def Qe (d:lB)(a:Bool)(x y:K):υ Bool:=match x,y with| .eH,.eH=>bF a (mN d x y) ν|_,_=>mN d x y
def JN (d:lB):Bool:=match d with| .bytes _| .struct _| .array .. =>θ|_=>φ
def È (op:BinOp)(d:lB)(a:Bool)(x y:K)(Z:O):OR:=
 match op,Qe d a x y with
 | .eql,some b=>.ok (.bool b) Z
 | .neq,some b=>.ok (.bool (!b)) Z
 |_,_=>.bad
def yb (op:BinOp)(k:IntKind)(a:Int)(m:Nat)(Z:O):OR:=
 match op,k with
 | .gtr,.i64=>bF (decide ((m:Int)<a)) .bad (.ok (.bool φ) Z)
 |_,_=>.bad
def R (op:BinOp)(d:υ lB)(c:Bool)(x y:K)(Z:O):OR:=
 match x,y with
 | .int k a,.int j b=>lb op k a j b Z
 | .str a,.str b=>sO op a b Z
 | .int k a,.iQ m=>yb op k a m Z
 | .iQ _,_=>.bad
 |_,.iQ _=>.bad
 | .any,_=>.bad
 |_,.any=>.bad
 |x,y=>(match d with|some d=>È op d c x y Z|none=>.bad)
def Om (x y:Operand):Bool:=(match x with| .const _=>θ|_=>φ)||(match y with| .const _=>θ|_=>φ)
def nP {a b:Value}(f:¬(a=.nilIface/\b=.nilIface))(e:∀c d,¬(a=.agg c/\b=.agg d)):
 (eqGuard op t X Y a b).run P w=.ok () w:=by
 cases op<;>first
  |rfl
  |(simp only[eqGuard,r8,pi,ii]
    split
    .exact absurd ⟨rfl,rfl⟩ f
    .exact absurd ⟨rfl,rfl⟩ (e _ _)
    .rfl)
def Jr (h:Om X Y=θ):(eqGuard op t X Y .nilIface .nilIface).run P w=.ok () w:=by
 cases X<;>cases Y<;>first|(simp[Om]at h;done)|(cases op<;>rfl)
def X0 {d:lB}{b:Bool}(h:mN d x y=Φ b){s:δ K}(a:x=.agg s):JN d=θ:=by
 subst a;cases d<;>simp[JN,mN]at h⊢
def LD {d:υ lB}{u:Bool}{y':Value}{f:Nat}(h:R op d u x y Z=.ok v Z')(z:WR ρ Z w)(n:VR ρ x x')(p:VR ρ y y')
 (N:∀e,d=Φ e->gO P f t=Φ e) (hf:f<10000) (S:u=Om X Y) (hg:∀e,d=Φ e->JN e=θ->P.eqGuardType P.depth t=φ):
 bH P (do eqGuard op t X Y x' y';binOp op t x' y') ρ Z w v Z':=by
 have g:∀{a b:Value},(eqGuard op t X Y a b).run P w=.ok () w->bH P (binOp op t a b) ρ Z w v Z'->bH P (do eqGuard op t X Y a b;binOp op t a b) ρ Z w v Z':=by
  intro a b W N;obtain⟨v',w',F,D,r,h3⟩:=N;exact⟨v',w',F,by simp[W,D],r,h3⟩
 unfold R at h
 split at h
 .cases n;cases p;exact g (nP V V) (LA h z)
 .cases n;cases p;exact g (nP V V) (Lx h z)
 .rename_i q a m;cases n;cases p with
  |iQ _ c S=>
   unfold yb at h
   split at h
   .rw[aS]at h
    split at h
    .cases h
    .rename_i M;cases h;have ab:¬((m:Nat):Int)<a:=by simpa using M
     refine g (nP V V) (bH.still z ?_ (.bool φ));have r:decide (c<a)=φ:=xI
     simp[binOp];show Sem.run P (pure (Value.bool (decide (c<a)))) w=_;rw[r];rfl
   .cases h
 .cases h
 .cases h
 .cases h
 .cases h
 .rename_i L j Et o I C aa
  split at h
  .rename_i e
   have key:∀b,Qe e u x y=Φ b->(Op.equal t x' y').run P w=.ok b w/\(eqGuard op t X Y x' y').run P w=.ok () w:=by
    intro b i
    have Q:mN e x y=Φ b:=by
     unfold Qe at i
     split at i
     .rw[aS]at i;split at i
      .exact i
      .cases i
     .exact i
    refine⟨TY (P:=P) (w:=w) (ρ:=ρ) f t e (N e rfl) 10000 hf x y x' y' b Q n p,?_⟩
    by_cases D:x'=.nilIface/\y'=.nilIface
    .obtain⟨rfl,rfl⟩:=D;cases n<;>first|(exact absurd rfl j)|skip
     cases p<;>first|(exact absurd rfl o)|skip
     have:u=θ:=by
      have e:Qe e u .eH .eH=bF u (mN e .eH .eH) ν:=rfl;rw[e,aS]at i
      split at i
      .assumption
      .cases i
     exact Jr (by rw[<-S,this])
    .by_cases r:∃c d,x'=.agg c/\y'=.agg d
     .obtain⟨c,d,rfl,rfl⟩:=r;have:JN e=θ:=by cases n with|agg s l _ _=>exact X0 Q rfl|any=>exact absurd rfl j
      exact run_eqGuard_agg w op t X Y c d (hg e rfl this)
     .exact nP D (λc d hh=>r ⟨c,d,hh⟩)
   have T:∀k k' a b,¬(x'=.int k a/\y'=.int k' b):=by
    rintro k k' a b ⟨rfl,rfl⟩;cases n with
    |any=>exact j rfl
    |iQ _ _ _=>exact L _ rfl
    |int _ _=>
     cases p with
     |any=>exact o rfl
     |iQ _ _ _=>exact Et _ rfl
     |int _ _=>exact I _ _ _ _ rfl rfl
   unfold È at h
   split at h
   .rename_i b i;obtain⟨H,G⟩:=key b i;cases h;refine g G (bH.still z ?_ (.bool b))
    cases n<;>first
     |(exact absurd rfl j)
     |(cases p<;>first
      |(exact absurd rfl o)
      |(exact absurd ⟨rfl,rfl⟩ (T _ _ _ _))
      |(exact(C _ _ rfl rfl).elim)
      |(simp only[binOp];simp[H]))
   .rename_i b i;obtain⟨H,G⟩:=key b i;cases h;refine g G (bH.still z ?_ (.bool _))
    cases n<;>first
     |(exact absurd rfl j)
     |(cases p<;>first
      |(exact absurd rfl o)
      |(exact absurd ⟨rfl,rfl⟩ (T _ _ _ _))
      |(exact(C _ _ rfl rfl).elim)
      |(simp only[binOp];simp[H]))
   .cases h
  .cases h
def kZ (op:UnOp)(x:K)(Z:O):OR:=
 match op,x with
 | .not,.bool b=>.ok (.bool (!b)) Z
 | .neg,.int k n=>.ok (.int k (k.wrap (0-n))) Z
 | .xor,.int k n=>(match lr .xor k (if k.signed then-1 else k.max) n with|some r=>.ok (.int k r) Z|none=>.bad)
 |_,_=>.bad
def Pa {op:UnOp}(h:kZ op x Z=.ok v Z')(b:WR ρ Z w)(a:VR ρ x x'):bH P (Op.unary op x') ρ Z w v Z':=by
 unfold kZ at h
 split at h
 .cases h;cases a;exact bH.still b rfl (.bool _)
 .cases h;cases a;exact bH.still b rfl (.int _ _)
 .rename_i k n
  split at h
  .rename_i r c;cases h;cases a;exact bH.still b (zO P w .xor k _ n r c) (.int _ _)
  .cases h
 .cases h
end
end
