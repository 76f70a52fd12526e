import Derived.Test.YtnahbemmgcjojaaGreatDoorGr14
import Derived.Test.YtnahbemmgcjojaaGreatDoorGr16
import Derived.Test.YtnahbemmgcjojaaGreatDoorKSimSort
import Derived.KernelRfl
import Derived.Deep.Slices
import Derived.Deep.Fields
import Derived.ChangeSame
import Derived.ProofKit
import Derived.OpenShut
import Derived.Below
import Derived.Test.YtnahbemmgcjojaaGreatDoorGr05
namespace Lim
open Go Go.RowKit Go.Maps Go.Sort Go.Shelf Go.Proofs Go.Proofs.YtnahbemmgcjojaaGreatDoor
noncomputable section
set_option maxRecDepth 100000
theorem Df (m:Nat):AnyZI.SortsIn P0 Tryz.sortedA_ren Fence.wide m:=
 ⟨fun blk off cap ss W hH Ve hsz=>callsIn_wide.2 (AnyM.slices_Sort_int Tryz.sortA blk off cap ss W hH Ve hsz),
  fun p cap W=>callsIn_wide.2 (AnyM.slices_Sort_int_none Tryz.sortA p cap W)⟩
theorem Gp:Ad P0 100 143 3 where
 eV:=by kernel_rfl
 Wk:=Tryz.underlying3
 out:=fun B b nn D0 R w mQ hB Es KI Lc=>by
  have Tu:SeqGives Fence.wide 2 P0 143 #[.pointer (some ⟨B,0,none⟩)] encZ (fun ss=>ss.Perm (intKeys D0)) (Maps.size D0) w:=
   AnyZI.keys_gives (ρ:=Tryz.keysA_ren) {Tryz.keysA with} Fence.wide _ trivial rfl (by omega) B b nn D0 w hB mQ Es
  have cS:=AnyZI.sorted_in Tryz.sortedA Fence.wide 5 trivial trivial trivial trivial rfl (by omega) (Df _) (enters_of Tryz.func142 (by kernel_rfl) rfl) 143 #[.pointer (some ⟨B,0,none⟩)] trivial (enters_of Tryz.func143 (by kernel_rfl) rfl) _ _ KI Lc _ Tu;change CallsIn _ _ P0 100 _ _ _ at cS;refine(callsIn_wide.1 cS).mono ?_;rintro e w' ⟨v,ss,rfl,hS,hrow,hnil,hb⟩;exact⟨v,ss,rfl,hS,hrow,hnil,hb⟩
theorem FF:P0.follows .mixedOrders=true:=by kernel_rfl
theorem FK:ql P0 I0:=by
 intro f args st v st' h;unfold I0 at h;simp only[aO,agA]at h
 split at h
 ·rename_i e;subst e;exact xf Gp h
 ·split at h
  ·rename_i e;subst e;exact Ac h
  ·split at h
   ·rename_i e;subst e;exact z6 h
   ·cases h
theorem ma.SH {P:Program}{lvs:Nat->Nat->Option (List Nat)}{I:tc}(hm:P.follows .mixedOrders=true)(hI:ql P I){f:Nat}{args:List CV}{st:St}{Q:CV->St->Prop}(hn:I f args st=none)(h:ma P lvs I f args st Q):∃v st',(eV P f=true/\wN P f args st v st')/\Q v st':=by
 obtain⟨v,st',⟨N,hN⟩,hq⟩:=h;have h1:=hN (N+1) (by omega);unfold RF at h1;simp only[vB,hn]at h1;exact⟨v,st',pA (zn (mC hm) hI N) (mC hm) h1,hq⟩
open Go Go.RowKit Go.ChangeShapes Go.WideShapes Go.Deep Go.Proofs
section
variable {H:Type} {enc:TypeId×Value->H} {P:Program} {w:World} {base:Nat} {spare:Nat->Bool} {held:Bool}
end
structure Left4 (W w':World):Prop where
 os:w'.os=W.os
 output:w'.output=W.output
 size:W.heap.size<=w'.heap.size
 block:∀k,k<W.heap.size->w'.heap[k]?=W.heap[k]?
theorem Left4.frame {W w':World}(h:Left4 W w')(may:MemPlace->Prop):W.keptBut w' may:=by
 refine⟨h.os,h.output,fun i hi=> ?_⟩;rw[h.block i hi]
 split<;>simp_all
theorem Left4.below {W w':World}(h:Left4 W w'):Below W.heap.size W {w' with tape:=W.tape}:=⟨h.os,rfl,h.output,h.size,h.block⟩
theorem Left4.trod {H:Type}{enc:TypeId×Value->H}{P:Program}{t:TypeId}(hl:laidOutB P=true)(hr:P.readableRec t=true)(hrow:t<P.types.size){W W':World}{v:Value}{d:DataW H}{ps:List MemPlace}
 (h:DataW.Trod enc P W 0 (fun _=>true) true t v d ps) (hb:Left4 W W') (hlt:∀x∈ps,x.block<W.heap.size):
 DataW.Trod enc P W' 0 (fun b=>decide (b<W.heap.size)) true t v d ps:=
 WideElems.Trod_stays hl hr hrow h (fun x hx=>by
  have:=hb.below.same (hlt x hx);cases x<;>exact this) (fun x hx=>by simpa using hlt x hx)
theorem CR {f:Nat}{args:List CV}{JG:Array Value}{W:World}(hI:I0 f args (Ip W W.heap.size)=none)(ha:cL (tH W W.heap.size) args JG.toList)(h:R f args (Ip W W.heap.size) fun y s=>y= .bool true/\Kp [] (Ip W W.heap.size) s):
 Calls Tryz.prog f JG W fun e w'=>e= .returned (.bool true)/\Left4 W w':=by
 obtain⟨y,st',⟨_,hc⟩,rfl,hk⟩:=ma.SH FF FK hI h;refine(hc _ W JG (LO W _) ha).mono ?_;rintro e w' ⟨v',ρ',rfl,hv',MB⟩;cases hv';refine⟨rfl,MB.os,MB.output,MB.size,fun k hlt=> ?_⟩
 by_cases hx:∃b blk sz,(Ip W W.heap.size).mem.get b=some blk/\tH W W.heap.size b=some (k,sz)
 ·obtain⟨b,blk,sz,h1,h2⟩:=hx;have hb:=(vn h1).1;obtain⟨_,c,t,lo,hi,e1,_,rfl⟩:=vn h1;obtain⟨o',g1,g2⟩:=MB.wr.ji b _ k sz ((hk.keep b hb (by simp)).trans h1) (MB.ext _ _ h2);unfold tH at h2;rw[agl hb]at h2;simp only[ahq,ahI]at h2;obtain⟨rfl,_⟩:=h2;cases g2;rw[g1,e1]
 ·exact MB.kept k hlt fun b blk sz h1 h2=>hx ⟨b,blk,sz,h1,h2⟩
open Go
theorem Sg (C:aN)(a:CV)(st:St)(Q:CV->St->Prop):aH P0 C (lvs 101) 101 [a] st Q=(upon (eO 147 a st) fun c b=>us (mH (.func 143) [] [c] b) fun d=>Q d b):=by kernel_rfl
theorem RQ (C:aN)(a:CV)(st:St)(Q:CV->St->Prop):aH P0 C (lvs 142) 142 [a] st Q=(us (bO .slice a st) fun b=>us (bQ (.toInt .u64) b st) fun c=>C 149 [c] st fun d e=>C 168 [a,(I 0),b,d] e fun g f=>Q .undef f):=by kernel_rfl
theorem ZK (C:aN)(a0:CV)(st:St)(Q:CV->St->Prop):aH P0 C (lvs 41) 41 [a0] st Q=
 (upon (eO 121 a0 st) fun x1 s1=>
 cd (
 us (al 0 x1 s1) fun x2=>
 us (aw x2 s1) fun x3=>
 us (al 1 x1 s1) fun x4=>
 us (aw x4 s1) fun x5=>
 us (al 2 x1 s1) fun x6=>
 us (aw x6 s1) fun x7=>
 us (al 3 x1 s1) fun x8=>
 us (aw x8 s1) fun x9=>
 us (al 4 x1 s1) fun cA=>
 us (aw cA s1) fun cF=>
 us (al 5 x1 s1) fun cO=>
 us (aw cO s1) fun cI=>
 us (al 6 x1 s1) fun dq=>
 us (aw dq s1) fun dx=>
 us (al 8 x1 s1) fun cX=>
 us (aw cX s1) fun dp=>
 C 80 [dp] s1 fun db s2=>
 us (al 9 x1 s2) fun dm=>
 us (aw dm s2) fun dB=>
 us (bf ([(.int .i64 0),(.int .i64 0),(.int .i64 0),(.int .i64 0),(.int .i64 0),(.int .i64 0),(.int .i64 0),(.int .u8 0),(.int .i64 0),(.int .i64 0), .aa,(.str []), .aC, .aa]++List.replicate 12 (.int .i64 0)++[.aa,(.bool false),(.bool false),(.int .i64 0)]) [(0,1,x3),(1,1,x5),(2,1,x7),(3,1,x9),(4,1,cF),(5,1,cI),(7,1,(.int .u8 1)),(9,1,dx),(10,1,db),(11,1,dB)] s2) fun dV=>
 upon (eO 206 dV s2) fun dU s3=>
 (((us (aw x2 s2) fun v=>v=x3)/\True)/\((us (aw x4 s2) fun v=>v=x5)/\True)/\((us (aw x6 s2) fun v=>v=x7)/\True)/\((us (aw x8 s2) fun v=>v=x9)/\True)/\((us (aw cA s2) fun v=>v=cF)/\True)/\((us (aw cO s2) fun v=>v=cI)/\True)/\((us (aw dq s2) fun v=>v=dx)/\True)/\(True)/\((us (aw dm s1) fun v=>v=dB)/\True)/\True)/\(True)/\
 fl 1 x1 s3 fun dQ=>
 C 81 [dQ,(.int .i64 1),(.int .i64 5)] s3 fun fp s4=>
 us (fA .not fp s4) fun ew=>
 eu (ag false ew) 0 x1 s4 fun fk=>
 eu (ag false ew) 1 x1 s4 fun fM=>
 cb (ag false ew) s4 (fun k=>C 81 [fk,(.int .i64 1),fM] s4 k) fun fD s5=>
 us (aS (ag false ew) s5 (fA .not fD s5)) fun gq=>
 us (aK ew (.bool true) gq s5) fun fE=>
 eu (ag false fE) 2 x1 s5 fun gI=>
 cb (ag false fE) s5 (fun k=>C 81 [gI,(.int .i64 1),(.int .i64 1000)] s5 k) fun iu s6=>
 us (aS (ag false fE) s6 (fA .not iu s6)) fun gX=>
 us (aK fE (.bool true) gX s6) fun gz=>
 eu (ag false gz) 3 x1 s6 fun iy=>
 cb (ag false gz) s6 (fun k=>C 81 [iy,(.int .i64 1),(.int .i64 1000)] s6 k) fun jc s7=>
 us (aS (ag false gz) s7 (fA .not jc s7)) fun iC=>
 us (aK gz (.bool true) iC s7) fun je=>
 eu (ag false je) 4 x1 s7 fun kg=>
 cb (ag false je) s7 (fun k=>C 81 [kg,(.int .i64 0),(.int .i64 2147483647)] s7 k) fun kG s8=>
 us (aS (ag false je) s8 (fA .not kG s8)) fun kD=>
 us (aK je (.bool true) kD s8) fun kf=>
 eu (ag false kf) 5 x1 s8 fun m7=>
 eu (ag false kf) 1 x1 s8 fun oF=>
 cb (ag false kf) s8 (fun k=>C 81 [m7,(.int .i64 0),oF] s8 k) fun qp s9=>
 us (aS (ag false kf) s9 (fA .not qp s9)) fun m6=>
 us (aK kf (.bool true) m6 s9) fun nD=>
 eu (ag false nD) 8 x1 s9 fun qo=>
 cb (ag false nD) s9 (fun k=>C 82 [qo] s9 k) fun oJ cw=>
 us (aS (ag false nD) cw (fA .not oJ cw)) fun qn=>
 us (aK nD (.bool true) qn cw) fun kF=>
 us (aS (ag false kF) cw (.ok dU cw)) fun tp=>
 eu (ag false kF) 8 x1 cw fun tn=>
 cb (ag false kF) cw (fun k=>C 83 [tp,tn] cw k) fun qZ cB=>
 us (aS (ag false kF) cB (fA .not qZ cB)) fun tm=>
 us (aK kF (.bool true) tm cB) fun qm=>
 us (aS (ag false qm) cB (.ok dU cB)) fun me=>
 eu (ag false qm) 10 x1 cB fun nJ=>
 cb (ag false qm) cB (fun k=>C 84 [me,nJ] cB k) fun mj eJ=>
 us (aS (ag false qm) eJ (fA .not mj eJ)) fun qY=>
 us (aK qm (.bool true) qY eJ) fun ve=>
 aD ve (
 Q (.tuple [.aC,(.int .i64 1)]) eJ) (
 fl 6 x1 eJ fun ru=>
 fl 7 x1 eJ fun wO=>
 fl 10 x1 eJ fun kE=>
 C 85 [ru,wO,kE] eJ fun qX eD=>
 us (aB qX 0 eD) fun vd=>
 us (aB qX 1 eD) fun wX=>
 us (ai .neq (some .int) true wX (.int .i64 0) eD) fun yV=>
 aD yV (
 Q (.tuple [.aC,wX]) eD) (
 C 86 [vd] eD fun tl ep=>
 us (aB tl 0 ep) fun Ag=>
 us (aB tl 1 ep) fun yU=>
 fl 4 x1 ep fun CP=>
 us (ai .gtr (none) false yU CP ep) fun JE=>
 aD JE (
 Q (.tuple [.aC,(.int .i64 1)]) ep) (
 kh 1 12 dU vd ep fun jl=>
 Q (.tuple [dU,(.int .i64 0)]) jl))))):=by kernel_rfl
theorem Za (C:aN)(a0 a1 a2:CV)(st:St)(Q:CV->St->Prop):aH P0 C (lvs 81) 81 [a0,a1,a2] st Q=
 (us (ai .geq (none) false a0 a1 st) fun x1=>
 us (aS (ag true x1) st (.ok a0 st)) fun x2=>
 us (aS (ag true x1) st (.ok a2 st)) fun x3=>
 us (aS (ag true x1) st (ai .leq (none) false x2 x3 st)) fun x4=>
 us (aK x1 x4 (.bool false) st) fun x5=>
 Q x5 st):=by kernel_rfl
theorem Y9 (C:aN)(a0:CV)(st:St)(Q:CV->St->Prop):aH P0 C (lvs 82) 82 [a0] st Q=
 (us (bO .slice a0 st) fun x1=>
 us (ai .gtr (none) true x1 (.int .i64 0) st) fun x2=>
 us (aS (ag true x2) st (.ok a0 st)) fun x3=>
 us (aS (ag true x2) st (.ok a0 st)) fun x4=>
 cb (ag true x2) st (fun k=>C 123 [x4] st k) fun x5 s1=>
 cb (ag true x2) s1 (fun k=>C 122 [x3,x5] s1 k) fun x6 s2=>
 us (aK x2 x6 (.bool false) s2) fun x7=>
 us (aS (ag true x7) s2 (.ok a0 s2)) fun x8=>
 sm (ag true x7) 1 x8 (.int .i64 0) s2 fun x9=>
 us (aS (ag true x7) s2 (ai .geq (none) true x9 (.int .i64 1) s2)) fun cA=>
 us (aK x7 cA (.bool false) s2) fun cF=>
 us (aS (ag true cF) s2 (.ok a0 s2)) fun cO=>
 us (aS (ag true cF) s2 (.ok a0 s2)) fun cI=>
 us (aS (ag true cF) s2 (bO .slice cI s2)) fun dq=>
 us (aS (ag true cF) s2 (ai .sub (none) true dq (.int .i64 1) s2)) fun dx=>
 sm (ag true cF) 1 cO dx s2 fun cX=>
 us (aS (ag true cF) s2 (ai .leq (none) true cX (.int .i64 5) s2)) fun dp=>
 us (aK cF dp (.bool false) s2) fun db=>
 Q db s2):=by kernel_rfl
theorem Y8 (C:aN)(a0 a1:CV)(st:St)(Q:CV->St->Prop):aH P0 C (lvs 83) 83 [a0,a1] st Q=
 (upon (eO 110 a0 st) fun x1 s1=>
 us (mH (.func 125) [] [x1] s1) fun x2=>
 C 124 [a1,x2] s1 fun x3 s2=>
 us (fA .not x3 s2) fun x4=>
 Q x4 s2):=by kernel_rfl
theorem Y7 (C:aN)(a0 a1:CV)(st:St)(Q:CV->St->Prop):aH P0 C (lvs 84) 84 [a0,a1] st Q=
 (upon (eO 110 a0 st) fun x1 s1=>
 us (mH (.func 127) [] [x1] s1) fun x2=>
 C 126 [a1,x2] s1 fun x3 s2=>
 us (fA .not x3 s2) fun x4=>
 Q x4 s2):=by kernel_rfl
theorem Y6 (C:aN)(a0 a1 a2:CV)(st:St)(Q:CV->St->Prop):aH P0 C (lvs 85) 85 [a0,a1,a2] st Q=
 (C 128 [a0] st fun x1 s1=>
 us (fA .not x1 s1) fun x2=>
 us (aS (ag false x2) s1 (.ok a1 s1)) fun x3=>
 cb (ag false x2) s1 (fun k=>C 128 [x3] s1 k) fun x4 s2=>
 us (aS (ag false x2) s2 (fA .not x4 s2)) fun x5=>
 us (aK x2 (.bool true) x5 s2) fun x6=>
 us (aS (ag false x6) s2 (.ok a1 s2)) fun x7=>
 us (aS (ag false x6) s2 (.ok a2 s2)) fun x8=>
 cb (ag false x6) s2 (fun k=>C 129 [x7,x8] s2 k) fun x9 s3=>
 us (aS (ag false x6) s3 (fA .not x9 s3)) fun cA=>
 us (aK x6 (.bool true) cA s3) fun cF=>
 aD cF (
 Q (.tuple [.aC,(.int .i64 1)]) s3) (
 us (bO .slice a2 s3) fun cO=>
 us (ai .sub (none) true (.int .i64 2147483647) a0 s3) fun cI=>
 us (ai .gtr (none) false cO cI s3) fun dq=>
 aD dq (
 Q (.tuple [.aC,(.int .i64 70)]) s3) (
 C 130 [a2] s3 fun dx s4=>
 us (bf [(.int .i64 0),(.int .i64 0), .aa] [(0,1,a0),(1,1,a1),(2,1,dx)] s4) fun cX=>
 upon (eO 274 cX s4) fun dp s5=>
 Q (.tuple [dp,(.int .i64 0)]) s5))):=by kernel_rfl
theorem Y5 (C:aN)(a0:CV)(st:St)(Q:CV->St->Prop):aH P0 C (lvs 86) 86 [a0] st Q=
 (us (ai .eql (some .ptr) true a0 .aC st) fun x1=>
 aD x1 (
 Q (.tuple [(.int .i64 0),(.int .i64 0)]) st) (
 cd (
 us (cz a0 st) fun x2=>
 us (al 0 x2 st) fun x3=>
 us (aw x3 st) fun x4=>
 us (cz a0 st) fun x5=>
 us (al 2 x5 st) fun x6=>
 us (aw x6 st) fun x7=>
 us (bO .slice x7 st) fun x8=>
 us (ai .add (none) false x4 x8 st) fun x9=>
 C 131 [a0,x9] st fun cA s1=>
 us (aB cA 0 s1) fun cF=>
 us (aB cA 1 s1) fun cO=>
 ((True)/\(True)/\True)/\(True)/\
 cd (
 us (cz a0 s1) fun cI=>
 us (al 0 cI s1) fun dq=>
 us (aw dq s1) fun dx=>
 us (cz a0 s1) fun cX=>
 us (al 2 cX s1) fun dp=>
 us (aw dp s1) fun db=>
 us (bO .slice db s1) fun dm=>
 us (ai .add (none) false dx dm s1) fun dB=>
 ((True)/\(True)/\True)/\(True)/\
 Q (.tuple [dB,cF]) s1)))):=by kernel_rfl
theorem R3 (C:aN)(a0 a1:CV)(st:St)(Q:CV->St->Prop):aH P0 C (lvs 122) 122 [a0,a1] st Q=
 (us (bO .slice a0 st) fun x1=>
 us (bO .slice a1 st) fun x2=>
 us (ai .neq (some .int) false x1 x2 st) fun x3=>
 aD x3 (
 Q (.bool false) st) (
 cN (fun v3 s1=>
 cf (fun v5 s2 k6=>
 us (ai .lss (none) false (ak 3 v5) (ak 2 v5) s2) fun x8=>
 aD x8 (
 cd (
 us (cm 1 (ak 0 v5) (ak 3 v5) s2) fun x9=>
 us (aw x9 s2) fun cA=>
 us (cm 1 (ak 1 v5) (ak 3 v5) s2) fun cF=>
 us (aw cF s2) fun cO=>
 us (ai .neq (some .int) false cA cO s2) fun cI=>
 ((True)/\(True)/\True)/\(True)/\
 aD cI (
 Q (.bool false) s2) (
 us (ai .add (none) true (ak 3 v5) (.int .i64 1) s2) fun dq=>
 k6 [(ak 0 v5),(ak 1 v5),(ak 2 v5),dq] s2))) (
 Q (.bool true) s2)) [(ak 0 v3),(ak 1 v3),(ak 2 v3),(ak 3 v3)] s1) fun k4=>
 us (bO .slice a0 st) fun dx=>
 k4 [a0,a1,dx,(.int .i64 0)] st)):=by kernel_rfl
theorem R2 (C:aN)(a0:CV)(st:St)(Q:CV->St->Prop):aH P0 C (lvs 123) 123 [a0] st Q=
 (C 80 [a0] st fun x1 s1=>
 C 142 [x1] s1 fun x2 s2=>
 C 157 [x1] s2 fun x3 s3=>
 Q x3 s3):=by kernel_rfl
theorem R0 (C:aN)(a0 a1:CV)(st:St)(Q:CV->St->Prop):aH P0 C (lvs 126) 126 [a0,a1] st Q=
 (C 159 [a0,a1] st fun x1 s1=>
 us (ai .geq (none) true x1 (.int .i64 0) s1) fun x2=>
 Q x2 s1):=by kernel_rfl
theorem RZ (C:aN)(a0:CV)(st:St)(Q:CV->St->Prop):aH P0 C (lvs 128) 128 [a0] st Q=
 (us (ai .geq (none) true a0 (.int .i64 0) st) fun x1=>
 us (aS (ag true x1) st (.ok a0 st)) fun x2=>
 us (aS (ag true x1) st (ai .leq (none) true x2 (.int .i64 2147483647) st)) fun x3=>
 us (aK x1 x3 (.bool false) st) fun x4=>
 Q x4 st):=by kernel_rfl
theorem RY (C:aN)(a0 a1:CV)(st:St)(Q:CV->St->Prop):aH P0 C (lvs 129) 129 [a0,a1] st Q=
 (upon (eO 3 a0 st) fun x1 s1=>
 us (mH (.func 160) [] [x1] s1) fun x2=>
 C 126 [a1,x2] s1 fun x3 s2=>
 us (fA .not x3 s2) fun x4=>
 Q x4 s2):=by kernel_rfl
theorem RX (C:aN)(a0:CV)(st:St)(Q:CV->St->Prop):aH P0 C (lvs 130) 130 [a0] st Q=
 (us (bO .slice a0 st) fun x1=>
 upon (jD 192 56 [(.int .i64 0),(.int .u8 0),(.str []), .aa] x1 x1 st) fun x2 s1=>
 upon (jF false 4 x2 a0 s1) fun x3 s2=>
 cN (fun v3 s3=>
 cf (fun v5 s4 k6=>
 us (ai .lss (none) false (ak 2 v5) (ak 1 v5) s4) fun x8=>
 aD x8 (
 jh 4 4 (ak 0 v5) (ak 2 v5) s4 fun x9=>
 C 161 [x9] s4 fun cA s5=>
 BU 4 4 (ak 0 v5) (ak 2 v5) cA s5 fun s6=>
 us (ai .add (none) true (ak 2 v5) (.int .i64 1) s6) fun cF=>
 k6 [(ak 0 v5),(ak 1 v5),cF] s6) (
 Q (ak 0 v5) s4)) [(ak 0 v3),(ak 1 v3),(ak 2 v3)] s3) fun k4=>
 us (bO .slice x2 s2) fun cO=>
 k4 [x2,cO,(.int .i64 0)] s2):=by kernel_rfl
theorem RW (C:aN)(a0 a1:CV)(st:St)(Q:CV->St->Prop):aH P0 C (lvs 131) 131 [a0,a1] st Q=
 (cd (
 us (ai .eql (some .ptr) true a0 .aC st) fun x1=>
 us (aS (ag false x1) st (.ok a1 st)) fun x2=>
 us (aS (ag false x1) st (.ok a0 st)) fun x3=>
 us (aS (ag false x1) st (cz x3 st)) fun x4=>
 us (aS (ag false x1) st (al 0 x4 st)) fun x5=>
 us (aS (ag false x1) st (aw x5 st)) fun x6=>
 us (aS (ag false x1) st (ai .lss (none) false x2 x6 st)) fun x7=>
 us (aK x1 (.bool true) x7 st) fun x8=>
 us (aS (ag false x8) st (.ok a1 st)) fun x9=>
 us (aS (ag false x8) st (.ok a0 st)) fun cA=>
 us (aS (ag false x8) st (cz cA st)) fun cF=>
 us (aS (ag false x8) st (al 0 cF st)) fun cO=>
 us (aS (ag false x8) st (aw cO st)) fun cI=>
 us (aS (ag false x8) st (.ok a0 st)) fun dq=>
 us (aS (ag false x8) st (cz dq st)) fun dx=>
 us (aS (ag false x8) st (al 2 dx st)) fun cX=>
 us (aS (ag false x8) st (aw cX st)) fun dp=>
 us (aS (ag false x8) st (bO .slice dp st)) fun db=>
 us (aS (ag false x8) st (ai .add (none) false cI db st)) fun dm=>
 us (aS (ag false x8) st (ai .gtr (none) false x9 dm st)) fun dB=>
 us (aK x8 (.bool true) dB st) fun dV=>
 ((True)/\(True)/\(True)/\True)/\(True)/\
 aD dV (
 Q (.tuple [(.int .i64 0),(.bool false)]) st) (
 eN 0 a0 st fun dU=>
 us (ai .eql (some .int) false a1 dU st) fun dQ=>
 aD dQ (
 eN 1 a0 st fun fp=>
 Q (.tuple [fp,(.bool true)]) st) (
 cd (
 us (cz a0 st) fun ew=>
 us (al 2 ew st) fun fk=>
 us (aw fk st) fun fM=>
 us (cz a0 st) fun fD=>
 us (al 0 fD st) fun gq=>
 us (aw gq st) fun fE=>
 us (ai .sub (none) false a1 fE st) fun gI=>
 us (ai .sub (none) true gI (.int .i64 1) st) fun iu=>
 us (cm 4 fM iu st) fun gX=>
 us (al 0 gX st) fun gz=>
 us (aw gz st) fun iy=>
 ((True)/\(True)/\(True)/\True)/\(True)/\
 Q (.tuple [iy,(.bool true)]) st))))):=by kernel_rfl
theorem RM (C:aN)(a0:CV)(st:St)(Q:CV->St->Prop):aH P0 C (lvs 149) 149 [a0] st Q=
 (aD (.bool false) (
 us (bQ (.toInt .u32) a0 st) fun x1=>
 C 177 [x1] st fun x2 s1=>
 Q x2 s1) (
 C 178 [a0] st fun x3 s2=>
 Q x3 s2)):=by kernel_rfl
theorem RG (C:aN)(a0:CV)(st:St)(Q:CV->St->Prop):aH P0 C (lvs 157) 157 [a0] st Q=
 (us (bO .slice a0 st) fun x1=>
 us (ai .lss (none) true x1 (.int .i64 2) st) fun x2=>
 aD x2 (
 Q a0 st) (
 cN (fun v2 s1=>
 cf (fun v4 s2 k5=>
 us (bO .slice (ak 0 v4) s2) fun x7=>
 us (ai .lss (none) false (ak 1 v4) x7 s2) fun x8=>
 aD x8 (
 cd (
 us (cm 1 (ak 0 v4) (ak 1 v4) s2) fun x9=>
 us (aw x9 s2) fun cA=>
 us (ai .sub (none) true (ak 1 v4) (.int .i64 1) s2) fun cF=>
 us (cm 1 (ak 0 v4) cF s2) fun cO=>
 us (aw cO s2) fun cI=>
 us (ai .eql (some .int) false cA cI s2) fun dq=>
 ((True)/\(True)/\True)/\(True)/\
 aD dq (
 us (cc 1 (ak 0 v4) (some (ak 1 v4)) none s2) fun dx=>
 cN (fun oG s3=>
 cf (fun q8 s4 Ki=>
 us (bO .slice (ak 2 q8) s4) fun dB=>
 us (ai .lss (none) false (ak 3 q8) dB s4) fun dV=>
 aD dV (
 cd (
 us (cm 1 (ak 2 q8) (ak 3 q8) s4) fun dU=>
 us (aw dU s4) fun dQ=>
 us (ai .sub (none) true (ak 3 q8) (.int .i64 1) s4) fun fp=>
 us (cm 1 (ak 2 q8) fp s4) fun ew=>
 us (aw ew s4) fun fk=>
 us (ai .neq (some .int) false dQ fk s4) fun fM=>
 ((True)/\(True)/\True)/\(True)/\
 aD fM (
 idx 1 (ak 2 q8) (ak 3 q8) s4 fun fD=>
 BU 1 1 (ak 0 q8) (ak 1 q8) fD s4 fun s5=>
 us (ai .add (none) true (ak 1 q8) (.int .i64 1) s5) fun gq=>
 us (ai .add (none) true (ak 3 q8) (.int .i64 1) s5) fun fE=>
 Ki [(ak 0 q8),gq,(ak 2 q8),fE] s5) (
 us (ai .add (none) true (ak 3 q8) (.int .i64 1) s4) fun gI=>
 Ki [(ak 0 q8),(ak 1 q8),(ak 2 q8),gI] s4))) (
 us (cc 1 (ak 0 q8) (some (ak 1 q8)) none s4) fun iu=>
 upon (vR [(.int .i64 0)] iu s4) fun _ s6=>
 us (cc 1 (ak 0 q8) none (some (ak 1 q8)) s6) fun gX=>
 Q gX s6)) [(ak 0 oG),(ak 1 oG),(ak 2 oG),(ak 3 oG)] s3) fun xW=>
 xW [(ak 0 v4),(ak 1 v4),dx,(.int .i64 1)] s2) (
 us (ai .add (none) true (ak 1 v4) (.int .i64 1) s2) fun gz=>
 k5 [(ak 0 v4),gz] s2))) (
 Q (ak 0 v4) s2)) [(ak 0 v2),(ak 1 v2)] s1) fun k3=>
 k3 [a0,(.int .i64 1)] st)):=by kernel_rfl
theorem RE (C:aN)(a0 a1:CV)(st:St)(Q:CV->St->Prop):aH P0 C (lvs 159) 159 [a0,a1] st Q=
 (cN (fun v0 s1=>
 cf (fun v2 s2 k3=>
 us (ai .lss (none) false (ak 3 v2) (ak 2 v2) s2) fun x5=>
 aD x5 (
 jh 4 4 (ak 0 v2) (ak 3 v2) s2 fun x6=>
 eG C (ak 1 v2) [x6] s2 fun x7 s3=>
 aD x7 (
 Q (ak 3 v2) s3) (
 us (ai .add (none) true (ak 3 v2) (.int .i64 1) s3) fun x8=>
 k3 [(ak 0 v2),(ak 1 v2),(ak 2 v2),x8] s3)) (
 Q (.int .i64 (-1)) s2)) [(ak 0 v0),(ak 1 v0),(ak 2 v0),(ak 3 v0)] s1) fun k1=>
 us (bO .slice a0 st) fun x9=>
 k1 [a0,a1,x9,(.int .i64 0)] st):=by kernel_rfl
theorem RC (C:aN)(a0 a1 a2 a3:CV)(st:St)(Q:CV->St->Prop):aH P0 C (lvs 168) 168 [a0,a1,a2,a3] st Q=
 (cN (fun v0 s1=>
 cf (fun v2 s2 k3=>
 us (ai .sub (none) false (ak 2 v2) (ak 1 v2) s2) fun x5=>
 us (ai .leq (none) true x5 (.int .i64 12) s2) fun x6=>
 aD x6 (
 C 184 [(ak 0 v2),(ak 1 v2),(ak 2 v2)] s2 fun x7 s3=>
 Q .undef s3) (
 us (ai .eql (some .int) true (ak 3 v2) (.int .i64 0) s2) fun x8=>
 aD x8 (
 C 185 [(ak 0 v2),(ak 1 v2),(ak 2 v2)] s2 fun x9 s4=>
 Q .undef s4) (
 cN (fun v9 s5=>
 C 187 [(ak 0 v9),(ak 1 v9),(ak 2 v9)] s5 fun cO s6=>
 us (aB cO 0 s6) fun cI=>
 us (aB cO 1 s6) fun dq=>
 cN (fun iN s7=>
 cN (fun mn s8=>
 cd (
 us (ai .gtr (none) true (ak 1 mn) (.int .i64 0) s8) fun dm=>
 us (aS (ag true dm) s8 (.ok (ak 0 mn) s8)) fun dB=>
 us (aS (ag true dm) s8 (.ok (ak 1 mn) s8)) fun dV=>
 us (aS (ag true dm) s8 (ai .sub (none) true dV (.int .i64 1) s8)) fun dU=>
 us (aS (ag true dm) s8 (cm 1 dB dU s8)) fun dQ=>
 us (aS (ag true dm) s8 (aw dQ s8)) fun fp=>
 us (aS (ag true dm) s8 (.ok (ak 0 mn) s8)) fun ew=>
 us (aS (ag true dm) s8 (.ok (ak 7 mn) s8)) fun fk=>
 us (aS (ag true dm) s8 (cm 1 ew fk s8)) fun fM=>
 us (aS (ag true dm) s8 (aw fM s8)) fun fD=>
 cb (ag true dm) s8 (fun k=>C 190 [fp,fD] s8 k) fun gq s9=>
 us (aS (ag true dm) s9 (fA .not gq s9)) fun fE=>
 us (aK dm fE (.bool false) s9) fun gI=>
 ((True)/\(True)/\True)/\(True)/\
 aD gI (
 C 191 [(ak 0 mn),(ak 1 mn),(ak 2 mn),(ak 7 mn)] s9 fun iu cw=>
 k3 [(ak 0 mn),iu,(ak 2 mn),(ak 3 mn),(ak 4 mn),(ak 5 mn)] cw) (
 C 192 [(ak 0 mn),(ak 1 mn),(ak 2 mn),(ak 7 mn)] s9 fun gX cB=>
 us (aB gX 0 cB) fun gz=>
 us (aB gX 1 cB) fun iy=>
 us (ai .sub (none) false gz (ak 1 mn) cB) fun jc=>
 us (ai .sub (none) false (ak 2 mn) gz cB) fun iC=>
 us (ai .quo (none) true (ak 6 mn) (.int .i64 8) cB) fun je=>
 us (ai .lss (none) false jc iC cB) fun kg=>
 aD kg (
 us (ai .geq (none) false jc je cB) fun kG=>
 C 168 [(ak 0 mn),(ak 1 mn),gz,(ak 3 mn)] cB fun kD eJ=>
 us (ai .add (none) true gz (.int .i64 1) eJ) fun kf=>
 k3 [(ak 0 mn),kf,(ak 2 mn),(ak 3 mn),kG,iy] eJ) (
 us (ai .geq (none) false iC je cB) fun m7=>
 us (ai .add (none) true gz (.int .i64 1) cB) fun oF=>
 C 168 [(ak 0 mn),oF,(ak 2 mn),(ak 3 mn)] cB fun qp eD=>
 k3 [(ak 0 mn),(ak 1 mn),gz,(ak 3 mn),m7,iy] eD)))) fun AM=>
 us (aS (ag true (ak 4 iN)) s7 (.ok (ak 5 iN) s7)) fun m6=>
 us (aK (ak 4 iN) m6 (.bool false) s7) fun nD=>
 us (aS (ag true nD) s7 (.ok (ak 8 iN) s7)) fun qo=>
 us (aS (ag true nD) s7 (ai .eql (some .int) true qo (.int .i64 1) s7)) fun oJ=>
 us (aK nD oJ (.bool false) s7) fun qn=>
 aD qn (
 C 189 [(ak 0 iN),(ak 1 iN),(ak 2 iN)] s7 fun kF ep=>
 aD kF (
 Q .undef ep) (
 AM [(ak 0 iN),(ak 1 iN),(ak 2 iN),(ak 3 iN),(ak 4 iN),(ak 5 iN),(ak 6 iN),(ak 7 iN)] ep)) (
 AM [(ak 0 iN),(ak 1 iN),(ak 2 iN),(ak 3 iN),(ak 4 iN),(ak 5 iN),(ak 6 iN),(ak 7 iN)] s7)) fun oq=>
 us (ai .eql (some .int) true dq (.int .i64 2) s6) fun tp=>
 aD tp (
 C 188 [(ak 0 v9),(ak 1 v9),(ak 2 v9)] s6 fun tn jl=>
 us (ai .sub (none) true (ak 2 v9) (.int .i64 1) jl) fun qZ=>
 us (ai .sub (none) false cI (ak 1 v9) jl) fun tm=>
 us (ai .sub (none) false qZ tm jl) fun qm=>
 oq [(ak 0 v9),(ak 1 v9),(ak 2 v9),(ak 3 v9),(ak 4 v9),(ak 5 v9),(ak 6 v9),qm,(.int .i64 1)] jl) (
 oq [(ak 0 v9),(ak 1 v9),(ak 2 v9),(ak 3 v9),(ak 4 v9),(ak 5 v9),(ak 6 v9),cI,dq] s6)) fun kZ=>
 us (fA .not (ak 4 v2) s2) fun me=>
 aD me (
 C 186 [(ak 0 v2),(ak 1 v2),(ak 2 v2)] s2 fun nJ iw=>
 us (ai .sub (none) true (ak 3 v2) (.int .i64 1) iw) fun mj=>
 kZ [(ak 0 v2),(ak 1 v2),(ak 2 v2),mj,(ak 4 v2),(ak 5 v2),x5] iw) (
 kZ [(ak 0 v2),(ak 1 v2),(ak 2 v2),(ak 3 v2),(ak 4 v2),(ak 5 v2),x5] s2)))) [(ak 0 v0),(ak 1 v0),(ak 2 v0),(ak 3 v0),(ak 4 v0),(ak 5 v0)] s1) fun k1=>
 k1 [a0,a1,a2,a3,(.bool true),(.bool true)] st):=by kernel_rfl
theorem RB (C:aN)(a0:CV)(st:St)(Q:CV->St->Prop):aH P0 C (lvs 178) 178 [a0] st Q=
 (cN (fun v0 s1=>
 cN (fun v2 s2=>
 cN (fun v4 s3=>
 us (bQ (.toInt .u8) (ak 0 v4) s3) fun x7=>
 us (jv (.str [0,1,2,2,3,3,3,3,4,4,4,4,4,4,4,4,5,5,5,5,5,5,5,5,5,5,5,5,5,5,5,5,6,6,6,6,6,6,6,6,6,6,6,6,6,6,6,6,6,6,6,6,6,6,6,6,6,6,6,6,6,6,6,6,7,7,7,7,7,7,7,7,7,7,7,7,7,7,7,7,7,7,7,7,7,7,7,7,7,7,7,7,7,7,7,7,7,7,7,7,7,7,7,7,7,7,7,7,7,7,7,7,7,7,7,7,7,7,7,7,7,7,7,7,7,7,7,7,8,8,8,8,8,8,8,8,8,8,8,8,8,8,8,8,8,8,8,8,8,8,8,8,8,8,8,8,8,8,8,8,8,8,8,8,8,8,8,8,8,8,8,8,8,8,8,8,8,8,8,8,8,8,8,8,8,8,8,8,8,8,8,8,8,8,8,8,8,8,8,8,8,8,8,8,8,8,8,8,8,8,8,8,8,8,8,8,8,8,8,8,8,8,8,8,8,8,8,8,8,8,8,8,8,8,8,8,8,8,8,8,8,8,8,8,8,8,8,8,8,8,8,8,8,8,8,8]) x7 s3) fun x8=>
 us (bQ (.toInt .i64) x8 s3) fun x9=>
 us (ai .add (none) false (ak 1 v4) x9 s3) fun cA=>
 Q cA s3) fun k5=>
 us (ai .geq (none) true (ak 0 v2) (.int .u64 256) s2) fun cF=>
 aD cF (
 us (ai .shr (none) true (ak 0 v2) (.int .u64 8) s2) fun cO=>
 us (ai .add (none) true (ak 1 v2) (.int .i64 8) s2) fun cI=>
 k5 [cO,cI] s2) (
 k5 [(ak 0 v2),(ak 1 v2)] s2)) fun k3=>
 us (ai .geq (none) true (ak 0 v0) (.int .u64 65536) s1) fun dq=>
 aD dq (
 us (ai .shr (none) true (ak 0 v0) (.int .u64 16) s1) fun dx=>
 us (ai .add (none) true (ak 1 v0) (.int .i64 16) s1) fun cX=>
 k3 [dx,cX] s1) (
 k3 [(ak 0 v0),(ak 1 v0)] s1)) fun k1=>
 us (ai .geq (none) true a0 (.int .u64 4294967296) st) fun dp=>
 aD dp (
 us (ai .shr (none) true a0 (.int .u64 32) st) fun db=>
 k1 [db,(.int .i64 32)] st) (
 k1 [a0,(.int .i64 0)] st)):=by kernel_rfl
theorem Rv (C:aN)(a0 a1 a2:CV)(st:St)(Q:CV->St->Prop):aH P0 C (lvs 184) 184 [a0,a1,a2] st Q=
 (cN (fun v0 s1=>
 cf (fun v2 s2 k3=>
 us (ai .lss (none) false (ak 3 v2) (ak 2 v2) s2) fun x5=>
 aD x5 (
 cN (fun v5 s3=>
 cf (fun v7 s4 k8=>
 cd (
 us (ai .gtr (none) false (ak 4 v7) (ak 1 v7) s4) fun cA=>
 us (aS (ag true cA) s4 (.ok (ak 0 v7) s4)) fun cF=>
 us (aS (ag true cA) s4 (.ok (ak 4 v7) s4)) fun cO=>
 us (aS (ag true cA) s4 (cm 1 cF cO s4)) fun cI=>
 us (aS (ag true cA) s4 (aw cI s4)) fun dq=>
 us (aS (ag true cA) s4 (.ok (ak 0 v7) s4)) fun dx=>
 us (aS (ag true cA) s4 (.ok (ak 4 v7) s4)) fun cX=>
 us (aS (ag true cA) s4 (ai .sub (none) true cX (.int .i64 1) s4)) fun dp=>
 us (aS (ag true cA) s4 (cm 1 dx dp s4)) fun db=>
 us (aS (ag true cA) s4 (aw db s4)) fun dm=>
 cb (ag true cA) s4 (fun k=>C 190 [dq,dm] s4 k) fun dB s5=>
 us (aK cA dB (.bool false) s5) fun dV=>
 ((True)/\(True)/\True)/\(True)/\
 aD dV (
 cd (
 us (ai .sub (none) true (ak 4 v7) (.int .i64 1) s5) fun dU=>
 us (ai .sub (none) true (ak 4 v7) (.int .i64 1) s5) fun dQ=>
 us (cm 1 (ak 0 v7) dQ s5) fun fp=>
 us (aw fp s5) fun ew=>
 us (cm 1 (ak 0 v7) (ak 4 v7) s5) fun fk=>
 us (aw fk s5) fun fM=>
 us (cm 1 (ak 0 v7) (ak 4 v7) s5) fun fD=>
 upon (aT 1 fD ew s5) fun gq s6=>
 us (cm 1 (ak 0 v7) dU s6) fun fE=>
 upon (aT 1 fE fM s6) fun gI s7=>
 ((True)/\(True)/\True)/\(True)/\
 us (ai .sub (none) true (ak 4 v7) (.int .i64 1) s7) fun iu=>
 k8 [(ak 0 v7),(ak 1 v7),(ak 2 v7),(ak 3 v7),iu] s7)) (
 us (ai .add (none) true (ak 3 v7) (.int .i64 1) s5) fun gX=>
 k3 [(ak 0 v7),(ak 1 v7),(ak 2 v7),gX] s5))) [(ak 0 v5),(ak 1 v5),(ak 2 v5),(ak 3 v5),(ak 4 v5)] s3) fun k6=>
 k6 [(ak 0 v2),(ak 1 v2),(ak 2 v2),(ak 3 v2),(ak 3 v2)] s2) (
 Q .undef s2)) [(ak 0 v0),(ak 1 v0),(ak 2 v0),(ak 3 v0)] s1) fun k1=>
 us (ai .add (none) true a1 (.int .i64 1) st) fun gz=>
 k1 [a0,a1,a2,gz] st):=by kernel_rfl
theorem Ru (C:aN)(a0 a1:CV)(st:St)(Q:CV->St->Prop):aH P0 C (lvs 190) 190 [a0,a1] st Q=
 (C 151 [a0] st fun x1 s1=>
 us (aS (ag true x1) s1 (.ok a1 s1)) fun x2=>
 cb (ag true x1) s1 (fun k=>C 151 [x2] s1 k) fun x3 s2=>
 us (aS (ag true x1) s2 (fA .not x3 s2)) fun x4=>
 us (aK x1 x4 (.bool false) s2) fun x5=>
 us (aS (ag false x5) s2 (.ok a0 s2)) fun x6=>
 us (aS (ag false x5) s2 (.ok a1 s2)) fun x7=>
 us (aS (ag false x5) s2 (ai .lss (none) false x6 x7 s2)) fun x8=>
 us (aK x5 (.bool true) x8 s2) fun x9=>
 Q x9 s2):=by kernel_rfl
theorem R1 (C:aN)(a0 a1:CV)(st:St)(Q:CV->St->Prop):aH P0 C (lvs 125) 125 [a0,a1] st Q=
 (us (aw a1 st) fun x1=>
 eN 1 x1 st fun x2=>
 us (ai .gtr (none) false a0 x2 st) fun x3=>
 Q x3 st):=by kernel_rfl
theorem RL (C:aN)(a0:CV)(st:St)(Q:CV->St->Prop):aH P0 C (lvs 151) 151 [a0] st Q=
 (us (ai .neq (some .int) false a0 a0 st) fun x1=>
 Q x1 st):=by kernel_rfl
theorem w11 (C:aN)(a0:CV)(st:St)(Q:CV->St->Prop):aH P0 C (lvs 11) 11 [a0] st Q=
 (upon (eO 23 a0 st) fun x1 s1=>
 fl 0 x1 s1 fun x2=>
 C 23 [x2,(.int .i64 1),(.int .i64 5)] s1 fun x3 s2=>
 eu (ag true x3) 1 x1 s2 fun x4=>
 cb (ag true x3) s2 (fun k=>C 23 [x4,(.int .i64 0),(.int .i64 3)] s2 k) fun x5 s3=>
 us (aK x3 x5 (.bool false) s3) fun x6=>
 eu (ag true x6) 2 x1 s3 fun x7=>
 cb (ag true x6) s3 (fun k=>C 23 [x7,(.int .i64 1),(.int .i64 3)] s3 k) fun x8 s4=>
 us (aK x6 x8 (.bool false) s4) fun x9=>
 eu (ag true x9) 3 x1 s4 fun cA=>
 cb (ag true x9) s4 (fun k=>C 23 [cA,(.int .i64 1),(.int .i64 4)] s4 k) fun cF s5=>
 us (aK x9 cF (.bool false) s5) fun cO=>
 eu (ag true cO) 4 x1 s5 fun cI=>
 cb (ag true cO) s5 (fun k=>C 23 [cI,(.int .i64 2000),(.int .i64 65536)] s5 k) fun dq s6=>
 us (aK cO dq (.bool false) s6) fun dx=>
 fl 5 x1 s6 fun cX=>
 C 23 [cX,(.int .i64 1),(.int .i64 1000)] s6 fun dp s7=>
 eu (ag true dp) 6 x1 s7 fun db=>
 cb (ag true dp) s7 (fun k=>C 23 [db,(.int .i64 1),(.int .i64 4)] s7 k) fun dm s8=>
 us (aK dp dm (.bool false) s8) fun dB=>
 eu (ag true dB) 9 x1 s8 fun dV=>
 cb (ag true dB) s8 (fun k=>C 23 [dV,(.int .i64 8),(.int .i64 1000)] s8 k) fun dU s9=>
 us (aK dB dU (.bool false) s9) fun dQ=>
 eu (ag true dQ) 10 x1 s9 fun fp=>
 eu (ag true dQ) 9 x1 s9 fun ew=>
 us (aS (ag true dQ) s9 (ai .quo (none) true ew (.int .i64 4) s9)) fun fk=>
 cb (ag true dQ) s9 (fun k=>C 23 [fp,(.int .i64 1),fk] s9 k) fun fM cw=>
 us (aK dQ fM (.bool false) cw) fun fD=>
 us (aS (ag true dx) cw (.ok fD cw)) fun gq=>
 us (aK dx gq (.bool false) cw) fun fE=>
 eu (ag true fE) 7 x1 cw fun gI=>
 cb (ag true fE) cw (fun k=>C 23 [gI,(.int .i64 0),(.int .i64 1000)] cw k) fun iu cB=>
 us (aK fE iu (.bool false) cB) fun gX=>
 eu (ag true gX) 8 x1 cB fun gz=>
 cb (ag true gX) cB (fun k=>C 23 [gz,(.int .i64 0),(.int .i64 100000)] cB k) fun iy eJ=>
 us (aK gX iy (.bool false) eJ) fun jc=>
 eu (ag true jc) 11 x1 eJ fun iC=>
 cb (ag true jc) eJ (fun k=>C 23 [iC,(.int .i64 1),(.int .i64 1000)] eJ k) fun je eD=>
 us (aK jc je (.bool false) eD) fun kg=>
 eu (ag true kg) 12 x1 eD fun kG=>
 cb (ag true kg) eD (fun k=>C 23 [kG,(.int .i64 0),(.int .i64 1000)] eD k) fun kD ep=>
 us (aK kg kD (.bool false) ep) fun kf=>
 Q kf ep):=by kernel_rfl
theorem ZZ (C:aN)(a0 a1 a2:CV)(st:St)(Q:CV->St->Prop):aH P0 C (lvs 23) 23 [a0,a1,a2] st Q=
 (us (ai .geq (none) false a0 a1 st) fun x1=>
 us (aS (ag true x1) st (.ok a0 st)) fun x2=>
 us (aS (ag true x1) st (.ok a2 st)) fun x3=>
 us (aS (ag true x1) st (ai .leq (none) false x2 x3 st)) fun x4=>
 us (aK x1 x4 (.bool false) st) fun x5=>
 Q x5 st):=by kernel_rfl
theorem w4 (C:aN)(a0:CV)(st:St)(Q:CV->St->Prop):aH P0 C (lvs 4) 4 [a0] st Q=
 (upon (eO 23 a0 st) fun x1 s1=>
 us (aP 13 x1 s1) fun x2=>
 C 11 [x2] s1 fun x3 s2=>
 Q x3 s2):=by kernel_rfl
def uv (n:Nat):List UInt8:=if 127<n then UInt8.ofNat (n%128+128)::uv (n/128)else [UInt8.ofNat n]
termination_by n
decreasing_by omega
theorem mo {n:Nat}(h:127<n):uv n=UInt8.ofNat (n%128+128)::uv (n/128):=by rw[uv,agl h]
theorem fS {n:Nat}(h:n<=127):uv n=[UInt8.ofNat n]:=by rw[uv,agf (by omega)]
theorem lq (n:Nat)(h:n<=2147483647):1<=(uv n).length/\(uv n).length<=5:=by
 have key:∀k n,n<128^(k+1)->1<=(uv n).length/\(uv n).length<=k+1:=by
  intro k
  induction k with
  |zero=>intro n h;rw[fS (by omega)];simp
  |succ k ih=>
   intro n h
   by_cases hn:127<n
   ·rw[mo hn];have:=ih (n/128) (Nat.div_lt_of_lt_mul (by rw[ahZ,ahE]at h;exact h));simp;omega
   ·rw[fS (by omega)];simp
 have:=key 4 n (by omega);omega
abbrev dS:=List UInt8
def jq (a b:dS):Prop:=Op.bytesLess a b=true
instance (a b:dS):Decidable (jq a b):=by unfold jq;infer_instance
def nE (a b:dS):Prop:=¬jq b a
instance (a b:dS):Decidable (nE a b):=by unfold nE;infer_instance
theorem pj (a b:UInt8)(x y:dS):jq (a::x) (b::y)↔a<b\/(a=b/\jq x y):=by
 unfold jq;simp[Op.bytesLess]
theorem iV (a:dS):¬jq a []:=by unfold jq;cases a<;>simp[Op.bytesLess]
theorem vX (a:UInt8)(x:dS):jq [] (a::x):=by unfold jq;simp[Op.bytesLess]
theorem sd (a:dS):¬jq a a:=by
 induction a with
 |nil=>exact iV _
 |cons a x ih=>rw[pj];rintro(h|⟨_,h⟩);exact absurd h (UInt8.lt_irrefl a);exact ih h
theorem kN {a b c:dS}(h:jq a b)(k:jq b c):jq a c:=by
 induction a generalizing b c with
 |nil=>cases c with
  |nil=>exact absurd k (iV _)
  |cons c z=>exact vX _ _
 |cons a x ih=>
  cases b with
  |nil=>exact absurd h (iV _)
  |cons b y=>
   cases c with
   |nil=>exact absurd k (iV _)
   |cons c z=>
    rw[pj]at*;rcases h with h|⟨rfl,h⟩<;>rcases k with k|⟨rfl,k⟩
    ·exact .inl (UInt8.lt_trans h k)
    ·exact .inl h
    ·exact .inl k
    ·exact .inr ⟨rfl,ih h k⟩
theorem BP (a b:dS):jq a b\/a=b\/jq b a:=by
 induction a generalizing b with
 |nil=>cases b with
  |nil=>exact .inr (.inl rfl)
  |cons b y=>exact .inl (vX _ _)
 |cons a x ih=>
  cases b with
  |nil=>exact .inr (.inr (vX _ _))
  |cons b y=>
   rw[pj,pj];rcases Nat.lt_trichotomy a.toNat b.toNat with h|h|h
   ·exact .inl (.inl (UInt8.lt_iff_toNat_lt.2 h))
   ·have e:=UInt8.toNat_inj.1 h;subst e;rcases ih y with h|rfl|h
    ·exact .inl (.inr ⟨rfl,h⟩)
    ·exact .inr (.inl rfl)
    ·exact .inr (.inr (.inr ⟨rfl,h⟩))
   ·exact .inr (.inr (.inl (UInt8.lt_iff_toNat_lt.2 h)))
theorem BQ {a b:dS}(h:jq a b):¬jq b a:=fun k=>sd _ (kN h k)
theorem Ea (a:dS):nE a a:=sd a
theorem jq.le {a b:dS}(h:jq a b):nE a b:=BQ h
theorem pk {a b:dS}:nE a b↔jq a b\/a=b:=by
 constructor
 ·intro h;rcases BP a b with h1|h1|h1;exact .inl h1;exact .inr h1;exact absurd h1 h
 ·rintro(h|rfl);exact h.le;exact Ea _
theorem nE.C3 {a b c:dS}(h:nE a b)(k:jq b c):jq a c:=by
 rcases pk.1 h with h|rfl;exact kN h k;exact k
theorem jq.rz {a b c:dS}(h:jq a b)(k:nE b c):jq a c:=by
 rcases pk.1 k with k|rfl;exact kN h k;exact h
theorem nE.trans {a b c:dS}(h:nE a b)(k:nE b c):nE a c:=by
 rcases pk.1 k with k|rfl;exact(h.C3 k).le;exact h
theorem GZ (a:dS):nE [] a:=iV a
theorem wc {a b:dS}(h:nE a b)(k:nE b a):a=b:=by
 rcases pk.1 h with h|h;exact absurd h k;exact h
theorem AH (a b:dS):Op.bytesLess a b=decide (jq a b):=by
 by_cases h:jq a b
 ·rw[agi h];exact h
 ·rw[agc h];simpa[jq]using h
theorem J9 (a b:dS):(Op.bytesLess a b||(a==b))=decide (nE a b):=by
 rw[AH,ahX];simp[pk]
theorem Lq (a b:dS):(!(Op.bytesLess a b))=decide (nE b a):=by rw[ahX];simp[nE,jq]
@[simp] theorem DG (a b:dS)(st:St):mE .lss a b st= .ok (.bool (decide (jq a b))) st:=by rw[<-AH];rfl
@[simp] theorem DH (a b:dS)(st:St):mE .leq a b st= .ok (.bool (decide (nE a b))) st:=by rw[<-J9];rfl
@[simp] theorem rQ (a b:dS)(st:St):mE .geq a b st= .ok (.bool (decide (nE b a))) st:=by rw[<-Lq];rfl
@[simp] theorem DI (a b:dS)(st:St):mE .eql a b st= .ok (.bool (decide (a=b))) st:=by
  have:(a==b)=decide (a=b):=by rw[ahX];simp
  rw[<-this];rfl
@[simp] theorem rP (a b:dS)(st:St):mE .neq a b st= .ok (.bool (!decide (a=b))) st:=by
  have:(a==b)=decide (a=b):=by rw[ahX];simp
  rw[<-this];rfl
structure fw where
 key:dS
 value:List UInt8
 ej:Nat
 size:Nat
deriving DecidableEq
structure ek where
 leaf:Bool
 cells:List fw
 kids:List Nat
deriving DecidableEq
def sN (leaf:Bool)(c:fw):List UInt8:=
 uv c.key.length++(c.key++(if leaf=true then (if c.ej=0 then uv 0++(uv c.value.length++c.value)else uv c.ej++uv c.size)else []))
def jP (leaf:Bool)(l:List fw):List UInt8:=(l.map (sN leaf)).flatten
def l7 (l:List Nat):List UInt8:=(l.map uv).flatten
def pc (n:ek):List UInt8:=uv (if n.leaf=true then 1 else 0)++(uv n.cells.length++(jP n.leaf n.cells++(if n.leaf=true then []else l7 n.kids)))
def ek.size (n:ek):Nat:=(pc n).length
abbrev tS:Nat:=2147483647
structure fw.ok (leaf:Bool)(c:fw):Prop where
 key:c.key.length<=48
 inner:leaf=false->c.value=[]/\c.ej=0/\c.size=0
 short:leaf=true->c.ej=0->c.size=0/\c.value.length<=64
 Ys:leaf=true->c.ej≠0->c.value=[]/\c.ej<=tS/\1<=c.size/\c.size<=tS
def vt (l:List fw):Prop:=l.Pairwise fun a b=>jq a.key b.key
structure ek.ok (n:ek):Prop where
 cell:∀c∈n.cells,c.ok n.leaf
 sorted:vt n.cells
 Eb:n.kids.length=if n.leaf=true then 0 else n.cells.length+1
 WU:∀k∈n.kids,k<=tS
theorem CU (n:Nat):1<=(uv n).length:=by by_cases hu:127<n;rw[mo hu];simp;rw[fS (by omega)];simp
theorem CT {n:Nat}(h:n<=127):(uv n).length=1:=by rw[fS h];rfl
theorem qL (leaf:Bool)(c:fw)(b:List fw):jP leaf (c::b)=sN leaf c++jP leaf b:=by simp[jP]
theorem zN (k:Nat)(b:List Nat):l7 (k::b)=uv k++l7 b:=by simp[l7]
theorem oC (leaf:Bool)(l:List fw):l.length<=(jP leaf l).length:=by
 induction l with
 |nil=>simp
 |cons c l ih=>
  rw[qL,agq,agT];have:=CU c.key.length;have:1<=(sN leaf c).length:=by unfold sN;rw[agq];omega
  omega
theorem vu (n:ek):n.size=1+((uv n.cells.length).length+((jP n.leaf n.cells).length+(if n.leaf=true then 0 else (l7 n.kids).length))):=by
 unfold ek.size pc;have:(uv (if n.leaf=true then 1 else 0)).length=1:=CT (by split<;>omega);rw[agq,agq,agq,this]
 split<;>simp
theorem ZE (C:aN)(a:CV)(st:St)(Q:CV->St->Prop):aH P0 C (lvs 47) 47 [a] st Q=(us (ai .eql (some .ptr) true a .aC st) fun b=>aD b (Q (I 0) st) (eN 0 a st fun c=>us (bO .slice c st) fun d=>Q d st)):=by kernel_rfl
theorem Y1 (C:aN)(a:CV)(st:St)(Q:CV->St->Prop):aH P0 C (lvs 90) 90 [a] st Q=(us (ai .eql (some .ptr) true a .aC st) fun b=>aD b (Q (I 2) st) (eN 4 a st fun c=>aD c (Q (I 20) st) (Q (I 0) st))):=by kernel_rfl
theorem YZ (C:aN)(a:CV)(st:St)(Q:CV->St->Prop):aH P0 C (lvs 92) 92 [a] st Q=(tX 2 5 a st fun c=>us (bf [(.bool false),(I 0)] [(0,1,(.bool true))] st) fun d=>us (ai .eql (some (.struct (.cons 0 1 false .bool (.cons 1 1 false .int .nil)))) false c d st) fun e=>aD e (Q (.bool true) st) (yn 5 1 a st fun f=>us (ai .sub (none) true f (I 1) st) fun g=>M5 1 5 1 a g st fun b=>eN 3 a b fun h=>us (ai .add (none) true h (I 1) b) fun i=>kh 1 3 a i b fun j=>Q (.bool false) j)):=by kernel_rfl
theorem ZB (C:aN)(c e:CV)(st:St)(Q:CV->St->Prop):aH P0 C (lvs 50) 50 [c,e] st Q=(C 90 [c] st fun g a=>us (ai .neq (some .int) true g (I 0) a) fun k=>aD k (Q (.tuple [.aa,g]) a) (us (ai .lss (none) true e (I 0) a) fun d=>us (aS (ag false d) a (.ok e a)) fun l=>us (aS (ag false d) a (.ok c a)) fun m=>fB (ag false d) 0 m a fun n=>us (aS (ag false d) a (bO .slice n a)) fun o=>us (aS (ag false d) a (ai .geq (none) false l o a)) fun p=>us (aK d (.bool true) p a) fun q=>aD q (Q (.tuple [.aa,(I 1)]) a) (eN 0 c a fun r=>jh 512 512 r e a fun s=>upon (dd 220 (zr 512) a) fun f t=>upon (aT 512 f s t) fun _ b=>cN (fun u h=>us (bM 512 1 (ak 0 u) none none h) fun v=>C 91 [v] h fun w x=>Q (.tuple [w,(I 0)]) x) fun i=>eN 2 c b fun y=>us (fO .int (I 0) true y e b) fun j=>us (aB j 0 b) fun z=>us (aB j 1 b) fun A=>aD A (eN 1 c b fun B=>IA 512 513 1 B z b fun D=>upon (aT 512 f D b) fun _ E=>i [f] E) (i [f] b)))):=by kernel_rfl
theorem Y0 (C:aN)(a:CV)(st:St)(Q:CV->St->Prop):aH P0 C (lvs 91) 91 [a] st Q=(us (ai .eql (some .slice) true a .aa st) fun c=>aD c (Q .aa st) (upon (bI 5 0 (cM 0 [(.int .u8 0)]) [] st) fun d b=>upon (cy 5 1 1 d (dJ .slice 1 [(.int .u8 0)] a b) b) fun e f=>Q e f)):=by kernel_rfl
theorem Zz (C:aN)(b e h:CV)(st:St)(Q:CV->St->Prop):aH P0 C (lvs 52) 52 [b,e,h] st Q=(C 90 [b] st fun k a=>us (ai .neq (some .int) true k (I 0) a) fun p=>aD p (Q k a) (us (ai .lss (none) true e (I 0) a) fun d=>us (aS (ag false d) a (.ok e a)) fun q=>us (aS (ag false d) a (.ok b a)) fun r=>fB (ag false d) 0 r a fun s=>us (aS (ag false d) a (bO .slice s a)) fun t=>us (aS (ag false d) a (ai .geq (none) false q t a)) fun u=>us (aK d (.bool true) u a) fun f=>us (aS (ag false f) a (.ok h a)) fun w=>us (aS (ag false f) a (bO .slice w a)) fun x=>us (aS (ag false f) a (ai .neq (some .int) true x (I 512) a)) fun y=>us (aK f (.bool true) y a) fun z=>aD z (Q (I 1) a) (cd (us (cz b a) fun A=>us (al 2 A a) fun B=>us (aw B a) fun D=>us (cz b a) fun E=>us (al 1 E a) fun F=>us (aw F a) fun G=>us (bO .slice G a) fun H=>upon (ef .int D e H a) fun V c=>((True)/\(True)/\True)/\(True)/\cd (us (cz b (St.skip c)) fun J=>us (al 1 J (St.skip c)) fun l=>us (aw l (St.skip c)) fun m=>us (mF 512 h (St.skip c)) fun n=>us (aP 512 n (St.skip c)) fun o=>us (bf ([(I 0)]++zr 512) [(0,1,e),(1,512,o)] (St.skip c)) fun K=>upon (dW c.next 223 1 (cM 1 ([(I 0)]++zr 512)) [(0,513,K)] (St.skip c)) fun L g=>upon (cy 223 513 520 m (dJ .slice 513 ([(I 0)]++zr 512) L g) g) fun M i=>us (cz b i) fun N=>us (al 1 N i) fun O=>upon (aT 1 O M i) fun W P=>(((us (aw l g) fun v=>v=m)/\True)/\((us (aP 512 n g) fun v=>v=o)/\True)/\True)/\((True)/\True)/\C 92 [b] P fun S j=>aD S (eN 7 b j fun T=>C 93 [b,T] j fun X U=>Q (I 20) U) (
 Q (I 0) j)))))):=by kernel_rfl
theorem YW (C:aN)(e g:CV)(st:St)(Q:CV->St->Prop):aH P0 C (lvs 95) 95 [e,g] st Q=(cN (fun c k=>cf (fun a d h=>us (ai .lss (none) false (ak 4 a) (ak 3 a) d) fun l=>aD l (jh 513 513 (ak 2 a) (ak 4 a) d fun m=>upon (dd 223 ([(I 0)]++zr 512) d) fun f n=>upon (aT 513 f m n) fun _ o=>eG C (ak 1 a) [(ak 4 a)] o fun p b=>aD p (cd (us (cz (ak 0 a) b) fun q=>us (al 0 q b) fun r=>us (aw r b) fun s=>us (al 0 f b) fun t=>us (aw t b) fun u=>us (al 1 f b) fun v=>us (aP 512 v b) fun w=>us (cm 512 s u b) fun x=>upon (aT 512 x w b) fun H i=>((True)/\(True)/\(True)/\True)/\(True)/\us (ai .add (none) true (ak 4 a) (I 1) i) fun y=>h [(ak 0 a),(ak 1 a),(ak 2 a),(ak 3 a),y] i)) (us (ai .add (none) true (ak 4 a) (I 1) b) fun z=>h [(ak 0 a),(ak 1 a),(ak 2 a),(ak 3 a),z] b)) (upon (fU none d) fun A B=>kh 1 1 (ak 0 a) .aa B fun D=>kh 1 2 (ak 0 a) A D fun E=>Q .undef E)) [(ak 0 c),(ak 1 c),(ak 2 c),(ak 3 c),(ak 4 c)] k) fun F=>eN 1 e st fun j=>us (bO .slice j st) fun G=>F [e,g,j,G,(I 0)] st):=by kernel_rfl
theorem RV (C:aN)(b c:CV)(st:St)(Q:CV->St->Prop):aH P0 C (lvs 136) 136 [b,c] st Q=(us (aw c st) fun d=>us (bO .slice d st) fun e=>us (ai .lss (none) false b e st) fun a=>us (aS (ag true a) st (aw c st)) fun f=>us (aS (ag true a) st (.ok b st)) fun g=>sm (ag true a) 1 f g st fun h=>us (aK a h (.bool false) st) fun i=>Q i st):=by kernel_rfl
theorem YY (C:aN)(a b:CV)(st:St)(Q:CV->St->Prop):aH P0 C (lvs 93) 93 [a,b] st Q=(upon (eO 44 b st) fun d c=>us (mH (.func 136) [] [d] c) fun e=>C 95 [a,e] c fun h f=>kh 1 4 a (.bool true) f fun g=>Q .undef g):=by kernel_rfl
theorem w5 (C:aN)(a:CV)(st:St)(Q:CV->St->Prop):aH P0 C (lvs 5) 5 [a] st Q=(us (ai .lss (none) true a (I 1) st) fun b=>us (aS (ag false b) st (.ok a st)) fun d=>us (aS (ag false b) st (ai .gtr (none) true d (I 65536) st)) fun e=>us (aK b (.bool true) e st) fun f=>aD f (Q (.tuple [.aC,(I 1)]) st) (upon (jD 220 512 (zr 512) a a st) fun g h=>upon (fU none h) fun i c=>us (bf [.aa, .aa, .cD,(I 0),(.bool false),(.bool false),(I 0), .aa] [(0,1,g),(2,1,i)] c) fun j=>upon (eO 46 j c) fun k l=>Q (.tuple [k,(I 0)]) l)):=by kernel_rfl
theorem Zi (C:aN)(a:CV)(st:St)(Q:CV->St->Prop):aH P0 C (lvs 72) 72 [a] st Q=(us (ai .eql (some .slice) true a .aa st) fun c=>aD c (Q .aa st) (upon (bI 4 0 (cM 0 [(.bool false)]) [] st) fun d b=>upon (cy 4 1 1 d (dJ .slice 1 [(.bool false)] a b) b) fun e f=>Q e f)):=by kernel_rfl
theorem Zx (C:aN)(a:CV)(st:St)(Q:CV->St->Prop):aH P0 C (lvs 54) 54 [a] st Q=(C 90 [a] st fun d b=>us (ai .neq (some .int) true d (I 0) b) fun e=>aD e (Q d b) (C 92 [a] b fun f c=>aD f (eN 7 a c fun g=>C 93 [a,g] c fun j h=>Q (I 20) h) (C 95 [a,(.func (.func 96) [] [])] c fun k i=>Q (I 0) i))):=by kernel_rfl
theorem YV (C:aN)(a:CV)(st:St)(Q:CV->St->Prop):aH P0 C (lvs 96) 96 [a] st Q=(Q (.bool true) st):=by kernel_rfl
theorem Zb (C:aN)(a:CV)(st:St)(Q:CV->St->Prop):aH P0 C (lvs 80) 80 [a] st Q=(us (ai .eql (some .slice) true a .aa st) fun c=>aD c (Q .aa st) (upon (bI 3 0 (cM 0 [(I 0)]) [] st) fun d b=>upon (cy 3 1 8 d (dJ .slice 1 [(I 0)] a b) b) fun e f=>Q e f)):=by kernel_rfl
theorem R.same {f:Nat}{args:List CV}{st:St}{x:CV}{Q:CV->St->Prop}(h:R f args st fun v st'=>v=x/\st'=st)(hq:Q x st):R f args st Q:=R.mono h (by rintro _ _ ⟨rfl,rfl⟩;exact hq)
theorem yA (e:Nat)(z:List CV)(st:St):bI e 0 (cM 0 z) [] st= .ok (.slice st.next 0 0 0 0) (St.new st (.cells [] e false)):=rfl
theorem Own.empty (st:St)(k e:Nat):Own (St.new st (.cells [] e false)) (.slice st.next 0 0 0 0) k e [] [st.next]:= .inr (.inl ⟨st.next,[],e,false,rfl,rfl,rfl,by simp⟩)
def mZ (k e:Nat)(v:CV)(L:List CV)(st:St)(x:CV)(st':St):Prop:=∃F',Kp [] st st'/\Own st' x k e L F'/\(∀b∈F',st.next<=b/\b<st'.next)/\(v= .aa->x= .aa)
theorem wD {st:St}{X:List Nat}{v:CV}{k e:Nat}(bytes:Nat){L z:List CV}(h:Sl st X v k L)(hk:0<k)(kR:bu L=true)(hsz:L.length*(bytes+1)<=140737488355328):
 us (ai .eql (some .slice) true v .aa st) fun x1=>aD x1 (mZ k e v L st .aa st)
  (upon (bI e 0 (cM 0 z) [] st) fun x2 s1=>upon (cy e k bytes x2 (dJ .slice k z v s1) s1) fun x3 s2=>mZ k e v L st x3 s2):=by
 by_cases hv:v= .aa
 ·subst hv
  have:L=[]:=by
   rcases h with⟨_,h⟩|⟨b,off,len,cap,grow,h1,_⟩
   ·exact h
   ·cases h1
  subst this;simp;exact⟨[],Kp.refl _ _, .inl ⟨rfl,rfl,rfl⟩,by simp,fun _=>rfl⟩
 ·have h1:us (ai .eql (some .slice) true v .aa st)=us (.ok (.bool false) st):=by
   rcases h with⟨h,_⟩|⟨b,off,len,cap,grow,h,_⟩
   ·exact absurd h hv
   ·subst h;rfl
  rw[h1];have mg:Kp [] st (St.new st (.cells [] e false)):=(Kp.refl [] st).new _;have lO:=(h.oE (Y:=[]) (by simp)).mono mg;obtain⟨n,h2,h3⟩:=lO.src z;obtain⟨v',st',F',h4,h5,h6,h7⟩:=(Own.empty st k e).append (bytes:=bytes) (T:=L) hk h2 kR (by simp) (by simpa using hsz);simp only[ae,ah,afY,agn,yA,bj,h3,h4];refine⟨F',mg.trans h6 (by simp),by simpa using h5,fun b hb=> ?_,fun e=>absurd e hv⟩;obtain⟨h8,h9⟩:=h7 b hb;refine⟨?_,h9⟩;simp only[ahu,pf]at h8;omega
theorem pF {st:St}{X:List Nat}{v:CV}{s:List UInt8}(h:Sl st X v 1 (aj s))(hs:s.length<=1000000000):R 91 [v] st (mZ 1 5 v (aj s) st):=by
 refine bp ?_;rw[Y0];exact wD 1 h (by omega) (mK s) (by simp;omega)
abbrev ij:=List UInt8
abbrev kV:=Nat×ij
structure aW where
 ar:List ij
 waits:List kV
 done:Int
 dead:Bool
 set:Bool
 left:Int
 keep:List Bool
def xU:List kV->Int->Option Nat
 |[],_=>none
 |w::r,i=>if i=w.1 then some r.length else xU r i
def jK (l:List kV)(i:Int):Option Nat:=xU l.reverse i
theorem oo (i:Int):jK [] i=none:=rfl
theorem qE (l:List kV)(w:kV)(i:Int):jK (l++[w]) i=if i=w.1 then some l.length else jK l i:=by simp[jK,xU]
theorem D9 {l:List kV}{i:Int}{k:Nat}(h:xU l i=some k):k<l.length:=by
 induction l with
 |nil=>cases h
 |cons w r ih=>
  simp only[xU]at h
  split at h
  ·cases h;simp
  ·have:=ih h;simp;omega
theorem qc {l:List kV}{i:Int}{k:Nat}(h:jK l i=some k):k<l.length:=by simpa using D9 h
def aW.cur (D:aW)(i:Nat):ij:=match jK D.waits i with|some k=>(D.waits.getD k (0,[])).2|none=>D.ar.getD i []
def ey (kept:Nat->Bool):Nat->List ij->List kV->List ij
 |_,L,[]=>L
 |i,L,w::r=>ey kept (i+1) (if kept i=true then L.set w.1 w.2 else L) r
theorem jY (kept:Nat->Bool)(i:Nat)(L:List ij)(W:List kV):(ey kept i L W).length=L.length:=by
 induction W generalizing i L with
 |nil=>rfl
 |cons w r ih=>simp only[ey];rw[ih];split<;>simp
def aW.settle (D:aW)(kept:Nat->Bool):aW:={D with ar:=ey kept 0 D.ar D.waits,waits:=[]}
def se (l:List Bool)(i:Nat):Bool:=l.getD i false
def aW.qK (D:aW)(keep:List Bool):aW:={D.settle (se keep)with dead:=true}
def aW.tick (D:aW):aW:={D with left:=IntKind.i64.wrap (D.left-1),done:=IntKind.i64.wrap (D.done+1)}
def aW.out (D:aW):Prop:=D.set=true/\D.left=0
instance (D:aW):Decidable D.out:=by unfold aW.out;infer_instance
def aW.write (D:aW)(i:Int)(b:ij):Int×aW:=
 if D.dead=true then (20,D)else if i<0\/(D.ar.length:Int)<=i\/b.length≠512 then (1,D)
 else if D.out then (20,{D with waits:=D.waits++[(i.toNat,b)]}.qK D.keep)else (0,{D with waits:=D.waits++[(i.toNat,b)]}.tick)
def aW.flush (D:aW):Int×aW:=if D.dead=true then (20,D)else if D.out then (20,D.qK D.keep)else (0,(D.tick).settle fun _=>true)
def aW.read (D:aW)(i:Int):Int×ij:=if D.dead=true then (20,[])else if i<0\/(D.ar.length:Int)<=i then (1,[])else (0,D.cur i.toNat)
def kj (l:List ij):List CV:=(l.map aj).flatten
def nW (w:kV):List CV:=I w.1::aj w.2
def eW (l:List kV):List CV:=(l.map nW).flatten
structure eX (st:St)(a:Nat)(F:List Nat)(D:aW)(vl vw vk:CV)(bl bm:Nat)(Fw Fk:List Nat):Prop where
 eq:F=a::bl::bm::(Fw++Fk)
 nd:F.Nodup
 lt:∀b∈F,b<st.next
 main:st.mem.get a=some (.cells [vl,vw, .map bm,I D.done, .bool D.dead, .bool D.set,I D.left,vk] 46 false)
 ar:Row st vl 512 D.ar.length (kj D.ar) bl
 waits:Own st vw 513 223 (eW D.waits) Fw
 now:∃m,dH st bm m/\∀i,ic m i=(jK D.waits i).map fun k:Nat=>I (Int.ofNat k)
 keep:Own st vk 1 4 (D.keep.map .bool) Fk
 tE:∀s∈D.ar,s.length=512
 qO:∀w∈D.waits,w.2.length=512/\w.1<D.ar.length
 size:D.ar.length<=65536
def cV (st:St)(a:Nat)(F:List Nat)(D:aW):Prop:=∃vl vw vk bl bm Fw Fk,eX st a F D vl vw vk bl bm Fw Fk
theorem vy {l:List ij}(h:∀s∈l,s.length=512):∀x∈l.map aj,x.length=512:=by
 intro x hx;obtain⟨s,hs,rfl⟩:=agJ.1 hx;simpa using h s hs
theorem ml {l:List kV}{n:Nat}(h:∀w∈l,w.2.length=512/\w.1<n):∀x∈l.map nW,x.length=513:=by
 intro x hx;obtain⟨s,hs,rfl⟩:=agJ.1 hx;simpa[nW]using (h s hs).1
section
variable {st st':St} {a:Nat} {F:List Nat} {D D':aW} {vl vw vk:CV} {bl bm:Nat} {Fw Fk:List Nat}
theorem eX.mono (h:eX st a F D vl vw vk bl bm Fw Fk)(hn:st.next<=st'.next)(hk:∀b∈F,st'.mem.get b=st.mem.get b):eX st' a F D vl vw vk bl bm Fw Fk:=by
 have hF:=fun b hb=>hk b (by rw[h.eq];simpa using hb);obtain⟨m,h1,h2⟩:=h.now
 exact⟨h.eq,h.nd,fun b hb=>ago (h.lt b hb) hn,by rw[hF a (.inl rfl)];exact h.main,h.ar.mono (hF bl (.inr (.inl rfl))),h.waits.mono fun b hb=>hF b (.inr (.inr (.inr (.inl hb)))),
  ⟨m,h1.mono (hF bm (.inr (.inr (.inl rfl)))),h2⟩,h.keep.mono fun b hb=>hF b (.inr (.inr (.inr (.inr hb)))),h.tE,h.qO,h.size⟩
theorem cV.keep {X:List Nat}(h:cV st a F D)(hk:Kp X st st')(hx:∀b∈F,b∉X):cV st' a F D:=by
 obtain⟨vl,vw,vk,bl,bm,Fw,Fk,h⟩:=h;exact⟨vl,vw,vk,bl,bm,Fw,Fk,h.mono hk.next fun b hb=>hk.keep b (h.lt b hb) (hx b hb)⟩
theorem cV.lt (h:cV st a F D):∀b∈F,b<st.next:=by obtain⟨vl,vw,vk,bl,bm,Fw,Fk,h⟩:=h;exact h.lt
theorem eX.mem (h:eX st a F D vl vw vk bl bm Fw Fk):a∈F:=by rw[h.eq];simp
theorem eX.apart (h:eX st a F D vl vw vk bl bm Fw Fk):(a≠bl/\a≠bm/\a∉Fw/\a∉Fk)/\(bl≠bm/\bl∉Fw/\bl∉Fk)/\(bm∉Fw/\bm∉Fk)/\Fw.Nodup/\Fk.Nodup/\∀b∈Fw,b∉Fk:=by
 have nd:=h.nd;rw[h.eq]at nd;simp only[agF,age,agz,ahO,ahz]at nd;obtain⟨⟨n1,n2,n3,n4⟩,⟨n5,n6,n7⟩,⟨n8,n9⟩,DY,G9,G8⟩:=nd;exact⟨⟨n1,n2,n3,n4⟩,⟨n5,n6,n7⟩,⟨n8,n9⟩,DY,G9,fun b h1 h2=>G8 b h1 b h2 rfl⟩
theorem eX.MV (h:eX st a F D vl vw vk bl bm Fw Fk)(e1:D'.ar=D.ar)(e2:D'.waits=D.waits)(e3:D'.keep=D.keep)
 (hn:st.next<=st'.next) (hm:st'.mem.get a=some (.cells [vl,vw, .map bm,I D'.done, .bool D'.dead, .bool D'.set,I D'.left,vk] 46 false)) (hk:∀b∈F,b≠a->st'.mem.get b=st.mem.get b):eX st' a F D' vl vw vk bl bm Fw Fk:=by
 obtain⟨⟨n1,n2,n3,n4⟩,_⟩:=h.apart;have hF:∀b,b=bl\/b=bm\/b∈Fw\/b∈Fk->b∈F:=fun b hb=>by rw[h.eq];simp only[age,agz];exact .inr hb
 have kp:=fun b hb=>hk b (hF b hb) (by
  intro e;subst e;rcases hb with e|e|e|e
  ·exact n1 e
  ·exact n2 e
  ·exact n3 e
  ·exact n4 e)
 obtain⟨m,h1,h2⟩:=h.now
 exact⟨h.eq,h.nd,fun b hb=>ago (h.lt b hb) hn,hm,by rw[e1];exact h.ar.mono (kp bl (.inl rfl)),by rw[e2];exact h.waits.mono fun b hb=>kp b (.inr (.inr (.inl hb))),
  ⟨m,h1.mono (kp bm (.inr (.inl rfl))),by rw[e2];exact h2⟩,by rw[e3];exact h.keep.mono fun b hb=>kp b (.inr (.inr (.inr hb))),
  by rw[e1];exact h.tE,by rw[e1,e2];exact h.qO,by rw[e1];exact h.size⟩
theorem sX (h:cV st a F D):R 90 [.ptr a 0] st fun v st'=>v=I (if D.dead=true then 20 else 0)/\st'=st:=by
 obtain⟨vl,vw,vk,bl,bm,Fw,Fk,h⟩:=h;refine bp ?_;rw[Y1];simp[eN,h.main]
theorem qb (h:cV st a F D):R 47 [.ptr a 0] st fun v st'=>v=I D.ar.length/\st'=st:=by
 obtain⟨vl,vw,vk,bl,bm,Fw,Fk,h⟩:=h;obtain⟨t,g,gr,hv,h1,h2,h3⟩:=h.ar;refine bp ?_;rw[ZE];subst hv;simp[eN,h.main]
theorem yz (h:eX st a F D vl vw vk bl bm Fw Fk):
 R 92 [.ptr a 0] st fun v st'=>if D.out then v= .bool true/\st'=st else v= .bool false/\Kp F st st'/\st'.next=st.next/\eX st' a F D.tick vl vw vk bl bm Fw Fk:=by
 refine bp ?_;rw[YZ]
 by_cases h1:D.set=true<;>by_cases h2:D.left=0<;>
  simp[eN,tX,yn,M5,kh,h.main,bB,eF,dG,o5,jx,wE,fQ,andThen,fG,h1,h2,aW.out]
 all_goals exact⟨(Kp.refl F st).set _ (.inl h.mem) (h.lt a h.mem),h.MV rfl rfl rfl (aga _) (by simp[h1,h2,aW.tick]) fun b hb iJ=>aq _ _ _ _ iJ⟩
end
section
variable {st st':St} {a:Nat} {F:List Nat} {D D':aW} {vl vw vk:CV} {bl bm:Nat} {Fw Fk:List Nat}
theorem rl {α:Type}{l:List α}{i:Nat}(h:i<l.length)(d:α):l.getD i d=l[i]:=by simp[List.getD,h]
theorem HX (h:eX st a F D vl vw vk bl bm Fw Fk){i:Nat}(hi:i<D.ar.length):(D.cur i).length=512:=by
 unfold aW.cur;cases hx:jK D.waits i with
 |none=>
  show(D.ar.getD i []).length=_;rw[rl hi];exact h.tE _ (agx ..)
 |some k=>
  have:=qc hx;show((D.waits.getD k (0,[])).2).length=_;rw[rl this];exact(h.qO _ (agx ..)).1
theorem bz (s:ij):bu (aj s)=true:=mK s
theorem cW (l t:List CV)(h:t.length=l.length):bB l 0 t=t:=by
 unfold bB;rw[List.take_zero,agE,agR (by omega),ahc]
theorem Row.r7 {v:CV}{k n b:Nat}{L:List (List CV)}(h:Row st v k n L.flatten b)(hw:∀x∈L,x.length=k)(hL:L.length=n){i:Nat}(hi:i<n)(Q:CV->Prop)(hq:Q (.agg L[i])):Lim.jh k k v (I i) st Q:=by
 obtain⟨t,g,gr,rfl,h1,h2,h3⟩:=h;unfold Lim.jh;rw[du hi (.inr (aga _))];simp only[ae,jA,h3,ao,pa,afZ];rw[mR hw i (by omega)]
 exact⟨by rw[h2];calc i*k+k=(i+1)*k:=by rw[ahm,ahW]
  _<=n*k:=agS k hi,hq⟩
theorem Own.row {v:CV}{k e:Nat}{L:List CV}{F:List Nat}(h:Own st v k e L F)(hL:0<L.length):∃b n,F=[b]/\Row st v k n L b/\v= .slice b 0 n n k/\L.length=n*k/\st.mem.get b=some (.cells L e true):=by
 rcases h with⟨rfl,rfl,rfl⟩|⟨b,l,t,g,rfl,rfl,rfl,h4⟩|⟨b,m,rfl,h2,h3,rfl,h5⟩
 ·simp at hL
 ·simp at hL
 ·exact⟨b,m,rfl,⟨e,true,k,rfl, .inr rfl,h3,h5⟩,rfl,h3,h5⟩
theorem nb (h:eX st a F D vl vw vk bl bm Fw Fk)(hw:0<D.waits.length):∃b,Fw=[b]/\vw= .slice b 0 D.waits.length D.waits.length 513/\st.mem.get b=some (.cells (eW D.waits) 223 true):=by
 have hl:(eW D.waits).length=D.waits.length*513:=by
  unfold eW;rw[fh (ml h.qO)];simp
 obtain⟨b,n,h1,h2,h3,h4,h5⟩:=h.waits.row (by omega);have:n=D.waits.length:=by omega
 subst this;exact⟨b,h1,h3,h5⟩
def QL (s:ij)(st:St)(v:CV)(st':St):Prop:=Kp [] st st'/\s.length=512/\∃b,v= .tuple [.slice b 0 512 512 1,I 0]/\st'.mem.get b=some (.cells (aj s) 5 true)/\st.next<=b/\b<st'.next
theorem rf (h:cV st a F D)(i:Int):R 50 [.ptr a 0,I i] st fun v st'=>if (D.read i).1=0 then QL (D.read i).2 st v st' else v= .tuple [.aa,I (D.read i).1]/\st'=st:=by
 have h0:=h;obtain⟨vl,vw,vk,bl,bm,Fw,Fk,h⟩:=h;refine bp ?_;rw[ZB];refine(sX h0).mono ?_;rintro _ _ ⟨rfl,rfl⟩;rename_i s1;unfold aW.read
 by_cases hd:D.dead=true
 ·simp[hd]
 ·obtain⟨t,g,gr,hv,h1,h2,h3⟩:=h.ar;have hlen:∀s:St,bO .slice vl s= .ok (I D.ar.length) s:=by intro s;subst hv;rfl
  by_cases IW:i<0
  ·simp[hd,IW,fB]
  ·by_cases F6:(D.ar.length:Int)<=i
   ·simp[hd,IW,F6,fB,h.main,hlen]
   ·obtain⟨n,rfl⟩:∃n:Nat,i=n:=⟨i.toNat,by omega⟩;have hn:n<D.ar.length:=by omega
    have hrow:=h.ar;have hbl:=h.lt bl (by rw[h.eq];simp);have ha:=h.lt a h.mem;have Ja:=h.lt bm (by rw[h.eq];simp);have uS:=HX h hn;obtain⟨m,sq,Hz⟩:=h.now
    have fin:∀nZ:St,Kp [] s1 nZ->s1.next<nZ.next->nZ.mem.get s1.next=some (.cells (aj (D.cur n)) 220 false)->
     us (bM 512 1 (.ptr s1.next 0) none none nZ) fun dx=>R 91 [dx] nZ fun cX s5=>QL (D.cur n) s1 (.tuple [cX,I 0]) s5:=by
     intro nZ hk hb hg;have e:bM 512 1 (.ptr s1.next 0) none none nZ= .ok (.slice s1.next 0 512 512 0) nZ:=rfl;rw[e,ae];have lO:Sl nZ [] (.slice s1.next 0 512 512 0) 1 (aj (D.cur n)):= .inr ⟨s1.next,0,512,512,0,rfl,by simp[uS],⟨aga _, .inl rfl⟩, .inr ⟨by simp,hb,_,220,false,hg,by simp[uS],by rw[agC,agk (by simp[uS])]⟩⟩;refine(pF lO (by omega)).mono ?_;rintro x st3 ⟨F',k1,k2,k3,k4⟩;refine⟨hk.trans k1 (by simp),uS, ?_⟩;obtain⟨b,n',q1,q2,q3,q4,q5⟩:=k2.row (by simp[uS]);have:n'=512:=by simp[uS]at q4;omega
     subst this;exact⟨b,by rw[q3],q5,aha hk.next (k3 b (by simp[q1])).1,(k3 b (by simp[q1])).2⟩
    simp[hd,IW,fB,eN,h.main,hlen,Int.not_le.mpr (show(n:Int)<D.ar.length by omega)];refine hrow.r7 (L:=D.ar.map aj) (vy h.tE) (by simp) hn _ ?_;have Ql:(St.new s1 (.cells (zr 512) 220 false)).mem.get a=_:=(aU _ _ _ ha).trans h.main;have wu:(aj (D.ar[n])).length=512:=by simpa using h.tE _ (agx ..)
    have tf:a≠s1.next:=by omega
    have hm':(St.set (St.new s1 (.cells (zr 512) 220 false)) s1.next (.cells (bB (zr 512) 0 (aj D.ar[n])) 220 false)).mem.get bm=s1.mem.get bm:=by rw[aq _ _ _ _ (by omega),aU _ _ _ Ja]
    have wS:=(IsMap.lookup (.inl sq) (.int .i64 0) true n _ hm');rw[agl rfl,Hz]at wS;simp[ba,wu,bz,aq _ _ _ _ tf,Ql,wS];have XP:∀blk,Kp [] s1 (St.set (St.new s1 (.cells (zr 512) 220 false)) s1.next blk):=fun blk=>((Kp.refl [] s1).new _).set blk (.inr (aga _)) (by simp);have hz:(zr 512).length=512:=agr;cases hx:jK D.waits n with
    |none=>
     simp;refine fin _ (XP _) (by simp) ?_;rw[az,cW _ _ (by rw[wu,hz])];have e:D.cur n=D.ar[n]:=by unfold aW.cur;rw[hx];exact rl hn _
     rw[e]
    |some k=>
     have hk:=qc hx;obtain⟨bw,Eh,IB,P3⟩:=nb h (by omega);have XX:=h.lt bw (by rw[h.eq,Eh];simp);have Ml:(aj (D.waits[k]).2).length=512:=by simpa using (h.qO _ (agx ..)).1
     have Tp:(((eW D.waits).drop (k*513+1)).take 512)=aj (D.waits[k]).2:=by
      unfold eW;rw[EU (ml h.qO) k (by simpa using hk) 1 512 (by omega)];simp only[ahG,nW,List.drop_succ_cons,agC];rw[agk (by omega)]
     have hwL:k*513+1+512<=(eW D.waits).length:=by
      unfold eW;rw[fh (ml h.qO)];simp;omega
     simp[IA,IB,du hk (.inr (aga _)),aq _ _ _ _ (show bw≠s1.next by omega),aU _ _ _ XX,P3,Tp,hwL,bz];refine⟨by omega,fin _ (XP _) (by simp) ?_⟩;rw[az,cW _ _ (by rw[mJ _ _ _ (by omega),Ml,hz])];have e:D.cur n=(D.waits[k]).2:=by unfold aW.cur;rw[hx];exact congrArg Prod.snd (rl hk _)
     rw[e]
end
section
variable {st st':St} {a:Nat} {F:List Nat} {D D':aW} {vl vw vk:CV} {bl bm:Nat} {Fw Fk:List Nat}
def PG (st:St)(F:List Nat)(f:CV)(n:Nat)(kept:Nat->Bool):Prop:=∀i<n,∀s,Kp F st s->∀Q:CV->St->Prop,Q (.bool (kept i)) s->eG R f [I i] s Q
def Ii (a:Nat)(F:List Nat)(st:St)(D:aW)(v:CV)(st':St):Prop:=v= .undef/\Kp F st st'/\∃F',cV st' a F' D/\(∀b∈F',b∈F\/st.next<=b)
theorem uq {f:CV}{kept:Nat->Bool}(h:eX st a F D vl vw vk bl bm Fw Fk)(hw:D.waits.length<=1000000000)(hf:PG st [a,bl] f D.waits.length kept):R 95 [.ptr a 0,f] st (Ii a F st (D.settle kept)):=by
 refine bp ?_;rw[YW]
 have Ml:∀s:St,bO .slice vw s= .ok (I D.waits.length) s:=by
  intro s
  by_cases h0:0<D.waits.length
  ·obtain⟨b,h1,h2,h3⟩:=nb h h0;subst h2;rfl
  ·have e:eW D.waits=[]:=by
    have:D.waits=[]:=agu.1 (by omega);rw[this];rfl
   have e2:D.waits.length=0:=by omega
   rcases h.waits with⟨rfl,_⟩|⟨b,l,t,g,rfl,_⟩|⟨b,n,rfl,h2,h3,_⟩
   ·rw[e2];rfl
   ·rw[e2];rfl
   ·rw[e]at h3;simp at h3;omega
 simp[eN,h.main,Ml];refine bA (fun n vs s=>∃i L,i+n=D.waits.length/\vs=[.ptr a 0,f,vw,I D.waits.length,I i]/\Kp [a,bl] st s/\eX s a F {D with ar:=L} vl vw vk bl bm Fw Fk/\L.length=D.ar.length/\ey kept i L (D.waits.drop i)=(D.settle kept).ar) ?_ (n:=D.waits.length) ⟨0,D.ar,by simp,rfl,Kp.refl _ _,h,rfl,by simp[aW.settle]⟩;rintro n vs s k ⟨i,L,hi,rfl,hk,hd,hL,hs⟩ next;obtain⟨⟨n1,n2,n3,n4⟩,⟨n5,n6,n7⟩,⟨n8,n9⟩,DY,G9,G8⟩:=hd.apart
 have pw:∀b,b=a\/b=bl\/b=bm\/b∈Fw\/b∈Fk->b∈F/\b<s.next:=fun b hb=>by
  have:b∈F:=by rw[h.eq];simpa using hb
  exact⟨this,hd.lt b this⟩
 by_cases hc:i<D.waits.length
 ·have gK:(i:Int)<D.waits.length:=by omega
  obtain⟨bw,Eh,IB,P3⟩:=nb hd (by simpa using Nat.lt_of_le_of_lt (Nat.zero_le _) hc);simp at IB P3;have XX:=pw bw (by simp[Eh]);have X6:=ml hd.qO
  have hrow:((eW D.waits).drop (i*513)).take 513=nW D.waits[i]:=by
   unfold eW;rw[mR X6 i (by simpa using hc)];simp
  have Eu:i*513+513<=(eW D.waits).length:=by unfold eW;rw[fh X6];simp;omega
  have NO:=hd.qO _ (agx (l:=D.waits) hc);have te:(nW D.waits[i]).length=513:=by simp[nW,NO.1]
  have kR:bu (nW D.waits[i])=true:=by simp[nW,bz]
  have hz:([CV.int .i64 0]++zr 512).length=513:=by simp
  have wr:IntKind.i64.wrap ((i:Int)+1)=((i+1:Nat):Int):=by rw[bN (by omega)];omega
  simp[gK,jh,IB,du hc (.inr (aga _)),P3,hrow,Eu,kR];rw[cW _ _ (by rw[te];simp)];refine⟨by omega,hf i hc _ ((hk.new _).set _ (.inr hk.next) (by simp)) _ ?_⟩;have Ql:=hd.main;have ha:=pw a (.inl rfl);have hbl:=pw bl (.inr (.inl rfl));obtain⟨t,g,gr,hv,e1,e2,e3⟩:=hd.ar;simp at hv;have NP:(D.waits[i]).1<L.length:=NO.2;have CG:Kp [a,bl] st (St.set (St.new s (.cells (CV.int .i64 0::zr 512) 223 false)) s.next (.cells (nW D.waits[i]) 223 false)):=(hk.new _).set _ (.inr hk.next) (by simp)
  have AW:eX (St.set (St.new s (.cells (CV.int .i64 0::zr 512) 223 false)) s.next (.cells (nW D.waits[i]) 223 false)) a F {D with ar:=L} vl vw vk bl bm Fw Fk:=hd.mono (by simp) fun b hb=>by
   have:=hd.lt b hb;rw[aq _ _ _ _ (by omega),aU _ _ _ this]
  have U4:=(show bl∈F/\bl<_ from⟨hbl.1,AW.lt bl hbl.1⟩);have OS:=ahh hc;rw[OS]at hs;simp only[ey]at hs;cases CF:kept i with
  |false=>
   rw[CF]at hs;simp[wr];exact next (n-1) _ _ (by omega) ⟨i+1,L,by omega,by simp[IB],CG,AW,hL,by simpa using hs⟩
  |true=>
   rw[CF]at hs;have yR:(aj (D.waits[i]).2).length=512:=by simpa using NO.1
   have Ye:=vy (l:=L) hd.tE;have Ow:(D.waits[i]).1*512+512<=(kj L).length:=by unfold kj;rw[fh Ye];simp;omega
   have hw0:∀h:0<(nW (D.waits[i]'hc)).length,(nW (D.waits[i]'hc))[0]'h=I (D.waits[i]'hc).1:=fun _=>rfl
   have Td:List.take 512 (nW D.waits[i]).tail=aj (D.waits[i]).2:=by
    show List.take 512 (aj (D.waits[i]).2)=_;rw[agk (by omega)]
   have Hz:=AW.main;have hl2:=AW.ar;obtain⟨t',g',gr',hv',e1',e2',Yv⟩:=hl2;simp only at Yv;simp[Hz,hw0,te,Td,hv,du NP (.inr (aga _)),Yv,Ow,yR,bz,wr];refine next (n-1) _ _ (by omega) ⟨i+1,L.set (D.waits[i]).1 (D.waits[i]).2,by omega,by simp[IB],CG.set _ (.inl (by simp)) U4.2, ?_,by simpa using hL,by simpa using hs⟩
   have wk:bB (kj L) ((D.waits[i]).1*512) (aj (D.waits[i]).2)=kj (L.set (D.waits[i]).1 (D.waits[i]).2):=by
    unfold kj;rw[Ci Ye _ (by simpa using NP) _ yR,List.map_set]
   rw[wk];obtain⟨m,sq,Uh⟩:=AW.now;refine⟨AW.eq,AW.nd,AW.lt, ?_,⟨t',g',gr',by simpa using hv',e1', ?_,by simp⟩,AW.waits.mono fun b hb=>aq _ _ _ _ fun e=>n6 (e▸hb),⟨m,sq.mono (aq _ _ _ _ (agZ n5)),Uh⟩,AW.keep.mono fun b hb=>aq _ _ _ _ fun e=>n7 (e▸hb), ?_, ?_, ?_⟩
   ·rw[aq _ _ _ _ n1];exact AW.main
   ·have:∀x∈L.set (D.waits[i]).1 (D.waits[i]).2,x.length=512:=fun x hx=>by
     rcases List.mem_or_eq_of_mem_set hx with hx|rfl
     ·exact hd.tE x hx
     ·exact NO.1
    unfold kj;rw[fh (vy this)];simp
   ·intro x hx;rcases List.mem_or_eq_of_mem_set hx with hx|rfl
    ·exact hd.tE x hx
    ·exact NO.1
   ·intro w hw;simpa using hd.qO w hw
   ·simpa using hd.size
 ·have gK:¬(i:Int)<D.waits.length:=by omega
  have ha:=pw a (.inl rfl);have Ql:(St.new s (.map [] 0)).mem.get a=_:=(aU _ _ _ ha.2).trans hd.main;simp[gK,kh,Ql,bB];have CJ:i=D.waits.length:=by omega
  rw[CJ,List.drop_length]at hs;simp only[ey]at hs;have hkF:Kp F st (St.set (St.new s (.map [] 0)) a (.cells [vl, .aa, .map s.next,I D.done, .bool D.dead, .bool D.set,I D.left,vk] 46 false)):=((hk.mono (by simp only[age,agX,aic];rintro q (rfl|rfl);exact .inl ha.1;exact .inl (pw _ (by simp)).1)).new _).set _ (.inl ha.1) (by have:=ha.2;simp;omega);refine⟨rfl,hkF,a::bl::s.next::([]++Fk),⟨vl, .aa,vk,bl,s.next,[],Fk,rfl, ?_, ?_,by simp[aW.settle], ?_, .inl ⟨rfl,rfl,rfl⟩,⟨[], ?_,fun i=>rfl⟩, ?_, ?_,by simp[aW.settle], ?_⟩, ?_⟩
  ·have hF:∀b∈Fk,b≠s.next:=fun b hb=>Nat.ne_of_lt (pw b (by simp[hb])).2;simp only[agF,age,agE,ahO];exact⟨⟨n1,Nat.ne_of_lt ha.2,n4⟩,⟨Nat.ne_of_lt (pw bl (by simp)).2,n7⟩,fun h=>hF _ h rfl,G9⟩
  ·intro b hb;simp only[age,agE]at hb;simp;rcases hb with rfl|rfl|rfl|hb
   ·omega
   ·have:=(pw b (by simp)).2;omega
   ·omega
   ·have:=(pw b (by simp[hb])).2;omega
  ·have:=hd.ar;have qf:L=ey kept 0 D.ar D.waits:=hs;simp only[aW.settle,<-qf];exact this.mono ((aq _ _ _ _ (agZ n1)).trans (aU _ _ _ (pw bl (by simp)).2))
  ·refine(dH.new s).mono ?_;exact aq _ _ _ _ (by omega)
  ·refine hd.keep.mono fun b hb=> ?_;exact(aq _ _ _ _ (fun e:b=a=>n4 (e▸hb))).trans (aU _ _ _ (pw b (by simp[hb])).2)
  ·simp only[aW.settle]at hs⊢;rw[<-hs];exact hd.tE
  ·simp only[aW.settle,jY];exact h.size
  ·intro b hb;simp only[age,agE]at hb;rcases hb with rfl|rfl|rfl|hb
   ·exact .inl ha.1
   ·exact .inl (pw b (by simp)).1
   ·exact .inr hk.next
   ·exact .inl (pw b (by simp[hb])).1
end
section
variable {st st':St} {a:Nat} {F:List Nat} {D D':aW} {vl vw vk:CV} {bl bm:Nat} {Fw Fk:List Nat}
abbrev Ft (l:List Bool):List CV:=l.map .bool
theorem Sl.jg {X:List Nat}{v:CV}{k:Nat}{L:List CV}(h:Sl st X v k L):v.isAny=false/\bW v=true/\v.bL=[v]:=by
 rcases h with⟨rfl,_⟩|⟨b,off,len,cap,grow,rfl,_⟩<;>exact⟨rfl,rfl,rfl⟩
theorem Hm {v:CV}{keep:List Bool}{b:Nat}(h:Sl st [] v 1 (Ft keep))(hb:st.mem.get b=some (.cells [v] 44 false))(i:Nat){Q:CV->St->Prop}(hq:Q (.bool (se keep i)) st):R 136 [I i, .ptr b 0] st Q:=by
 refine bp ?_;rw[RV];have hl:=h.len keep.length (by simp) (by omega) st;simp only[av,hb,ao,afX,au,hl,ae]
 by_cases hi:i<keep.length
 ·simp[hi,hb];have:sm (some true) 1 v (I i) st=Lim.idx 1 v (I i) st:=rfl;rw[this];refine h.idx (by simpa using hi) _ ?_
  simpa[se,List.getD,hi]using hq
 ·simp[hi,sm,cm]
  simpa[se,List.getD,agL (show keep.length<=i by omega)]using hq
def sY (a:Nat)(F:List Nat)(st:St)(D:aW)(st':St):Prop:=Kp F st st'/\∃F',cV st' a F' D/\(∀b∈F',b∈F\/st.next<=b)
theorem yw (h:eX st a F D vl vw vk bl bm Fw Fk){v:CV}{keep:List Bool}(hw:D.waits.length<=1000000000)(hv:Sl st [a,bl] v 1 (Ft keep)):R 93 [.ptr a 0,v] st fun _ st'=>sY a F st (D.qK keep) st':=by
 refine bp ?_;rw[YY];obtain⟨q1,q2,q3⟩:=hv.jg;have ha:=h.lt a h.mem;simp[q1];rw[q3];have mg:Kp [] st (St.new st (.cells [v] 44 false)):=(Kp.refl [] st).new _;have h1:=h.mono mg.next fun b hb=>aU _ _ _ (h.lt b hb);refine(uq h1 hw (kept:=se keep) ?_).mono ?_
 ·intro i hi s hs Q hq;rw[dR];refine Hm (v:=v) (keep:=keep) ?_ (b:=st.next) ?_ i hq
  ·exact((hv.mono (mg.mono (by simp))).mono hs).oE (by simp)
  ·rw[hs.keep _ (by simp) (by simp;exact⟨by omega,by have:=h.lt bl (by rw[h.eq];simp);omega⟩)];simp
 ·rintro _ s ⟨rfl,h2,F',h3,h4⟩;obtain⟨vl,vw,vk,bl,bm,Fw,Fk,h3⟩:=h3;have h4':=fun b hb=>(h4 b hb).imp id fun h=>aha mg.next h;simp[kh,h3.main,bB];refine⟨((mg.mono (G:=F) (by simp)).trans h2 fun q hq=> .inl hq).set _ (.inl h.mem) (h3.lt a h3.mem),F',⟨vl,vw,vk,bl,bm,Fw,Fk,h3.MV rfl rfl rfl (aga _) ?_ fun b hb iJ=>aq _ _ _ _ iJ⟩,h4'⟩;simp[aW.qK,aW.settle]
theorem AK (h:eX st a F D vl vw vk bl bm Fw Fk):Sl st [a,bl] vk 1 (Ft D.keep):=h.keep.sl fun b hb=>by
 obtain⟨⟨n1,n2,n3,n4⟩,⟨n5,n6,n7⟩,_⟩:=h.apart;refine⟨?_,h.lt b (by rw[h.eq];simp[hb])⟩;simp only[age,agX,aic,ahO];exact⟨fun e=>n4 (e▸hb),fun e=>n7 (e▸hb)⟩
theorem sF (h:cV st a F D)(hw:D.waits.length<=1000000000):R 54 [.ptr a 0] st fun x st'=>x=I D.flush.1/\sY a F st D.flush.2 st':=by
 have h0:=h;obtain⟨vl,vw,vk,bl,bm,Fw,Fk,h⟩:=h;refine bp ?_;rw[Zx];refine(sX h0).mono ?_;rintro _ _ ⟨rfl,rfl⟩;rename_i s1;unfold aW.flush
 by_cases hd:D.dead=true
 ·simp[hd];exact⟨Kp.refl _ _,F,h0,fun b hb=> .inl hb⟩
 ·simp[hd];refine(yz h).mono ?_;intro v s2 hb
  by_cases ho:D.out
  ·rw[agl ho]at hb;obtain⟨rfl,rfl⟩:=hb;simp[ho,eN,h.main];exact yw h hw (AK h)
  ·rw[agf ho]at hb;obtain⟨rfl,hk,hn,h2⟩:=hb;simp[ho];refine(uq h2 (kept:=fun _=>true) hw ?_).mono ?_
   ·intro i hi s hs Q hq;rw[dR];refine bp ?_;simp only[agE,ahc];rw[YV];exact hq
   ·rintro _ s ⟨rfl,h3,F',h4,h5⟩;exact⟨hk.trans h3 fun q hq=> .inl hq,F',h4,fun b hb=>(h5 b hb).imp id fun h=>by omega⟩
end
section
variable {st st':St} {a:Nat} {F:List Nat} {D D':aW} {vl vw vk:CV} {bl bm:Nat} {Fw Fk:List Nat}
theorem rv (h:cV st a F D){i:Int}{v:CV}{s:ij}(yd:dw st)(hw:D.waits.length<100000000)(hv:Sl st F v 1 (aj s))(hs:s.length=512):R 52 [.ptr a 0,I i,v] st fun x st'=>x=I (D.write i s).1/\sY a F st (D.write i s).2 st':=by
 have h0:=h;obtain⟨vl,vw,vk,bl,bm,Fw,Fk,h⟩:=h;refine bp ?_;rw[Zz];refine(sX h0).mono ?_;rintro _ _ ⟨rfl,rfl⟩;rename_i s1;unfold aW.write;have qH:sY a F s1 D s1:=⟨Kp.refl _ _,F,h0,fun b hb=> .inl hb⟩
 by_cases hd:D.dead=true
 ·simp[hd,qH]
 ·obtain⟨t,g,gr,Th,h1,h2,h3⟩:=h.ar;have hlen:∀s:St,bO .slice vl s= .ok (I D.ar.length) s:=by intro s;subst Th;rfl
  by_cases IW:i<0
  ·simp[hd,IW,qH,fB]
  ·by_cases F6:(D.ar.length:Int)<=i
   ·simp[hd,IW,F6,fB,h.main,hlen,qH]
   ·obtain⟨n,rfl⟩:∃n:Nat,i=n:=⟨i.toNat,by omega⟩;have hn:n<D.ar.length:=by omega
    obtain⟨bv,off,cap,grow,NQ⟩:∃bv off cap grow,v= .slice bv off 512 cap grow:=by
     rcases hv with⟨_,h⟩|⟨b,off,len,cap,grow,rfl,h2,_⟩
     ·have:=congrArg List.length h;simp[hs]at this
     ·have:len=512:=by simp[hs]at h2;omega
      subst this;exact⟨b,off,cap,grow,rfl⟩
    obtain⟨Tj,Tf,l,tv,gv,Xi,IC,AN⟩:bv∉F/\bv<s1.next/\∃l t g,s1.mem.get bv=some (.cells l t g)/\off+512<=l.length/\(l.drop off).take 512=aj s:=by
     rcases hv with⟨h,_⟩|⟨b,off,len,cap,grow,h,h2,h3,h4⟩
     ·rw[NQ]at h;cases h
     ·rw[NQ]at h;cases h;rcases h4 with h4|h4
      ·cases h4
      ·exact h4
    obtain⟨m,sq,Hz⟩:=h.now
    have Eu:∀s:St,bO .slice vw s= .ok (I D.waits.length) s:=by
     intro s
     by_cases h0:0<D.waits.length
     ·obtain⟨b,h1,h2,h3⟩:=nb h h0;subst h2;rfl
     ·have e:eW D.waits=[]:=by
       have:D.waits=[]:=agu.1 (by omega);rw[this];rfl
      have e2:D.waits.length=0:=by omega
      rcases h.waits with⟨rfl,_⟩|⟨b,l,t,g,rfl,_⟩|⟨b,n,rfl,h2,h3,_⟩
      ·rw[e2];rfl
      ·rw[e2];rfl
      ·rw[e]at h3;simp at h3;omega
    obtain⟨blk,Mn,Ko,Hq⟩:=IsMap.update (.inl sq) n (I D.waits.length);have ha:=h.lt a h.mem;have Ja:=h.lt bm (by rw[h.eq];simp);obtain⟨⟨n1,n2,n3,n4⟩,⟨n5,n6,n7⟩,⟨n8,n9⟩,DY,G9,G8⟩:=h.apart;have NS:bv≠bm:=fun e=>Tj (by rw[h.eq,e];simp);have hva:bv≠a:=fun e=>Tj (by rw[e];exact h.mem);have e1:(St.set s1 bm blk).mem.get a=s1.mem.get a:=aq _ _ _ _ n2;have e2:(St.set s1 bm blk).mem.get bv=s1.mem.get bv:=aq _ _ _ _ NS
    have OW:grow=0\/1<=cap/\512<=cap:=by
     rcases hv with⟨h,_⟩|⟨b,off,len,cap,grow,h,h2,h3,h4⟩
     ·rw[NQ]at h;cases h
     ·rw[NQ]at h;cases h;omega
    have Mx:(aj s).length=512:=by simpa using hs
    have iX:(St.skip (St.set s1 bm blk)).mem.get s1.next=none:=by
     rw[xh,aq _ _ _ _ (by omega)];exact yd _ (aga _)
    have ye:eZ [(0,513, .agg (I n::aj s))] (cM 1 (I 0::zr 512))=some (I n::aj s):=by
     simp[dG,cM,bB,Mx]
    have kx:bf (I 0::zr 512) [(0,1,I n),(1,512, .agg (aj s))] (St.skip (St.set s1 bm blk))= .ok (.agg (I n::aj s)) (St.skip (St.set s1 bm blk)):=by
     rw[eF];simp[dG,bB,Mx]
    have nQ:=mG (e:=223) (n:=1) iX ye;simp[hd,IW,fB,eN,h.main,hlen,Int.not_le.mpr (show(n:Int)<D.ar.length by omega),NQ,Eu,Mn,e1,e2,Xi,mF,AN];refine⟨OW,IC, ?_⟩;rw[kx,ae,nQ,bj];have wt:Kp (bm::Fw) s1 (St.set (St.skip (St.set s1 bm blk)) s1.next (.cells (I n::aj s) 223 false)):=(((Kp.refl _ s1).set _ (.inl (by simp)) Ja).skip).set _ (.inr (aga _)) (by simp)
    have zP:dJ .slice 513 (I 0::zr 512) (.slice s1.next 0 1 1 0) (St.set (St.skip (St.set s1 bm blk)) s1.next (.cells (I n::aj s) 223 false))=some (1,I n::aj s):=
     Ax (az _ _ _) (by omega) (by simp[hs])
    rw[zP]
    have hW3:Own (St.set (St.skip (St.set s1 bm blk)) s1.next (.cells (I n::aj s) 223 false)) vw 513 223 (eW D.waits) Fw:=h.waits.mono fun b hb=>by
     have:=h.lt b (by rw[h.eq];simp[hb]);exact(aq _ _ _ _ (by omega)).trans (aq _ _ _ _ (fun e:b=bm=>n8 (e▸hb)))
    obtain⟨v',s4,LW,EN,Ga,Vj,X4⟩:=hW3.append (n:=1) (bytes:=520) (T:=I n::aj s) (by omega) (by simp[hs]) (by simp[bz]) (fun b hb=>by
     have:=h.lt b (by rw[h.eq];simp[hb]);simp;omega) (by
     have e:(eW D.waits).length=D.waits.length*513:=by unfold eW;rw[fh (ml h.qO)];simp
     rw[e];simp[hs];omega)
    rw[EN,bj];obtain⟨o1,o2⟩:=Ga.bW;have uQ:=wt.trans Vj fun q hq=> .inl (by simp[hq]);have Ug:s4.mem.get a=_:=(uQ.keep a ha (by simp;exact⟨n2,n3⟩)).trans h.main;have hm3:=(wt.keep a ha (by simp;exact⟨n2,n3⟩)).trans h.main;have HH:=(wt.keep bv Tf (by simp;exact⟨NS,fun e=>Tj (by rw[h.eq];simp[e])⟩)).trans Xi;simp[Ug,hm3,HH,o1,o2,IC,AN,bB];have wx:D.dead=false:=by simpa using hd
    have ed:({ar:=D.ar,waits:=D.waits++[(n,s)],done:=D.done,dead:=false,set:=D.set,left:=D.left,keep:=D.keep}:aW)={D with waits:=D.waits++[(n,s)]}:=by rw[<-wx]
    rw[ed,agl hs];have hF:∀b,b=a\/b=bl\/b=bm\/b∈Fw\/b∈Fk->b∈F:=fun b hb=>by rw[h.eq];simpa using hb
    have pw:∀b∈LW,(b∈Fw\/s1.next<=b):=fun b hb=>(X4 b hb).1.imp id fun h=>by simp at h;omega
    have hl1:=h.lt
    have QA:eX (St.set s4 a (.cells [vl,v', .map bm,I D.done, .bool D.dead, .bool D.set,I D.left,vk] 46 false)) a (a::bl::bm::(LW++Fk)) {D with waits:=D.waits++[(n,s)]} vl v' vk bl bm LW Fk:=by
     have iJ:∀b∈Fk,b<s1.next:=fun b hb=>hl1 b (hF b (by simp[hb]));have HA:=fun b hb=>ago (hl1 b hb) uQ.next;have iA:∀b,b≠a->(St.set s4 a (.cells [vl,v', .map bm,I D.done, .bool D.dead, .bool D.set,I D.left,vk] 46 false)).mem.get b=s4.mem.get b:=fun b hb=>aq _ _ _ _ hb;have EA:∀b∈F,b≠bm->b∉Fw->s4.mem.get b=s1.mem.get b:=fun b h1 h2 h3=>uQ.keep b (hl1 b h1) (by simp;exact⟨h2,h3⟩);refine⟨rfl, ?_, ?_,by simp,h.ar.mono ?_, ?_,⟨_,(Hq sq).mono ?_, ?_⟩,h.keep.mono ?_,h.tE, ?_,h.size⟩
     ·have hFw:LW.Nodup:=by rcases Ga with⟨_,_,rfl⟩|⟨_,_,_,_,_,_,rfl,_⟩|⟨_,_,_,_,_,rfl,_⟩<;>simp
      have PW:∀b,b∈F->b∉Fw->b∉LW:=fun b h1 h2 h3=>by
       rcases pw b h3 with h4|h4
       ·exact h2 h4
       ·have:=hl1 b h1;omega
      simp only[agF,age,agz,ahO,ahz];exact⟨⟨n1,n2,PW a h.mem n3,n4⟩,⟨n5,PW bl (hF _ (by simp)) n6,n7⟩,⟨PW bm (hF _ (by simp)) n8,n9⟩,hFw,G9,fun x hx y hy e=>PW y (hF y (by simp[hy])) (fun h=>G8 y h hy) (e▸hx)⟩
     ·intro b hb;show b<s4.next;simp only[age,agz]at hb;rcases hb with rfl|rfl|rfl|hb|hb
      ·exact HA _ h.mem
      ·exact HA _ (hF _ (by simp))
      ·exact HA _ (hF _ (by simp))
      ·exact(X4 b hb).2
      ·exact HA _ (hF _ (by simp[hb]))
     ·exact(iA _ (agZ n1)).trans (EA bl (hF _ (by simp)) n5 n6)
     ·have e:eW (D.waits++[(n,s)])=eW D.waits++(I n::aj s):=by simp[eW,nW]
      show Own _ v' 513 223 (eW (D.waits++[(n,s)])) LW;rw[e]
      exact Ga.mono fun b hb=>iA b fun e=>by
       rcases pw b hb with h4|h4
       ·exact n3 (e▸h4)
       ·omega
     ·rw[iA _ (agZ n2),Vj.keep bm (by simp;omega) n8,aq _ _ _ _ (by omega),xh]
     ·intro i;show _=Option.map _ (jK (D.waits++[(n,s)]) i);rw[xP,qE]
      split
      ·rfl
      ·exact Hz i
     ·intro b hb;exact(iA _ (fun e=>n4 (e▸hb))).trans (EA b (hF _ (by simp[hb])) (fun e=>n9 (e▸hb)) (fun h=>G8 b h hb))
     ·intro w hw;rcases agz.1 hw with hw|hw
      ·exact h.qO w hw
      ·simp only[ahu]at hw;subst hw;exact⟨hs,hn⟩
    have CI:Kp F s1 (St.set s4 a (.cells [vl,v', .map bm,I D.done, .bool D.dead, .bool D.set,I D.left,vk] 46 false)):=(uQ.mono fun q hq=> .inl (hF q (by simp at hq;rcases hq with rfl|hq<;>simp[*]))).set _ (.inl h.mem) (ago ha uQ.next)
    have qW:∀b∈a::bl::bm::(LW++Fk),b∈F\/s1.next<=b:=by
     intro b hb;simp only[age,agz]at hb;rcases hb with rfl|rfl|rfl|hb|hb
     ·exact .inl h.mem
     ·exact .inl (hF _ (by simp))
     ·exact .inl (hF _ (by simp))
     ·exact(pw b hb).imp (fun h=>hF _ (by simp[h])) id
     ·exact .inl (hF _ (by simp[hb]))
    refine(yz QA).mono ?_;intro x s6 hb
    by_cases ho:D.out
    ·rw[agl (show aW.out {D with waits:=D.waits++[(n,s)]}from ho)]at hb;obtain⟨rfl,rfl⟩:=hb;simp[ho];refine(yw QA (by simp;omega) (AK QA)).mono ?_;rintro _ s7 ⟨h7,F',h8,h9⟩;exact⟨CI.trans h7 qW,F',h8,fun b hb=>(h9 b hb).elim (qW b) fun h=> .inr (aha CI.next h)⟩
    ·rw[agf (show¬aW.out {D with waits:=D.waits++[(n,s)]}from ho)]at hb;obtain⟨rfl,hk,hn,h2⟩:=hb;simp[ho];exact⟨CI.trans hk qW,_,⟨_,_,_,_,_,_,_,h2⟩,qW⟩
def lS (L:List ij):aW:=⟨L,[],0,false,false,0,[]⟩
def yK (L:List ij)(st:St)(v:CV)(st':St):Prop:=Kp [] st st'/\∃a F,v= .tuple [.ptr a 0,I 0]/\cV st' a F (lS L)/\∀b∈F,st.next<=b
theorem Ha {s1:St}{x:CV}{L:List ij}{t:TypeId}{g:Bool}{gr b:Nat}(hk:Kp [] st s1)(hx:x= .slice b 0 L.length L.length gr)(hgr:gr=0\/gr=512)(hb:s1.mem.get b=some (.cells (kj L) t g))(yR:st.next<=b)(hb2:b<s1.next)(hL:∀s∈L,s.length=512)(hn:L.length<=65536):
 yK L st (.tuple [.ptr (s1.next+1) 0,I 0]) (St.new (St.new s1 (.map [] 0)) (.cells [x, .aa, .map s1.next,I 0, .bool false, .bool false,I 0, .aa] 46 false)):=by
 refine⟨(hk.new _).new _,s1.next+1,(s1.next+1)::b::s1.next::([]++[]),rfl,⟨x, .aa, .aa,b,s1.next,[],[],rfl, ?_, ?_, ?_,⟨t,g,gr,hx,hgr, ?_, ?_⟩, .inl ⟨rfl,rfl,rfl⟩,⟨[], ?_,fun i=>rfl⟩, .inl ⟨rfl,rfl,rfl⟩,hL, ?_,hn⟩, ?_⟩
 ·simp;omega
 ·intro q hq;simp at hq;simp;rcases hq with rfl|rfl|rfl<;>omega
 ·exact aG _ _
 ·show(kj L).length=_;unfold kj;rw[fh (vy hL)];simp[lS]
 ·show(St.new (St.new s1 _) _).mem.get b=_;rw[aU _ _ _ (by simp;omega),aU _ _ _ hb2];exact hb
 ·refine(dH.new s1).mono ?_;rw[aU _ _ _ (by simp)]
 ·intro w hw;simp[lS]at hw
 ·intro q hq;have:=hk.next;simp at hq;rcases hq with rfl|rfl|rfl<;>omega
def km:ij:=List.replicate 512 0
theorem oQ:km.length=512:=agr
theorem Nb (n:Nat):cM n (zr 512)=kj (List.replicate n km):=by
 unfold cM kj km;rw[List.map_replicate]
 congr 2
theorem DW {n:Nat}(h1:1<=n)(h2:n<=65536):R 5 [I n] st fun v st'=>yK (List.replicate n km) st v st':=by
 refine bp ?_;rw[w5];have e1:¬(n:Int)<1:=by omega
 have e2:¬(65536:Int)<n:=by omega
 simp[e1,e2,jD,eF,dG,bB];refine⟨by omega, ?_⟩;have hk:Kp [] st (St.new st (.cells (cM n (zr 512)) 220 false)):=(Kp.refl [] st).new _;refine Ha (x:= .slice st.next 0 n n 0) hk (by simp) (.inl rfl) (b:=st.next) (g:=false) (t:=220) ?_ (aga _) (by simp) ?_ (by simpa using h2)
 ·rw[<-Nb];exact aG st _
 ·intro s hs;rw[List.eq_of_mem_replicate hs];exact oQ
end
theorem Rw (C:aN)(c d:CV)(st:St)(Q:CV->St->Prop):aH P0 C (lvs 183) 183 [c,d] st Q=(cN (fun e i=>cf (fun a b j=>us (ai .gtr (none) true (ak 0 a) (.int .u64 127) b) fun k=>aD k (us (bQ (.toInt .u8) (ak 0 a) b) fun l=>us (ai .or (none) true l (.int .u8 128) b) fun m=>upon (bI 5 1 (cM 1 [(.int .u8 0)]) [(0,1,m)] b) fun n f=>upon (cy 5 1 1 (ak 1 a) (dJ .slice 1 [(.int .u8 0)] n f) f) fun o g=>us (ai .shr (none) true (ak 0 a) (.int .u64 7) g) fun p=>j [p,o] g) (us (bQ (.toInt .u8) (ak 0 a) b) fun q=>upon (bI 5 1 (cM 1 [(.int .u8 0)]) [(0,1,q)] b) fun r h=>upon (cy 5 1 1 (ak 1 a) (dJ .slice 1 [(.int .u8 0)] r h) h) fun s t=>Q s t)) [(ak 0 e),(ak 1 e)] i) fun u=>C 91 [c] st fun v w=>u [d,v] w):=by kernel_rfl
theorem RI (C:aN)(b a:CV)(st:St)(Q:CV->St->Prop):aH P0 C (lvs 154) 154 [b,a] st Q=(us (ai .lss (none) true a (I 0) st) fun c=>us (aS (ag false c) st (.ok a st)) fun d=>us (aS (ag false c) st (ai .gtr (none) true d (I 2147483647) st)) fun e=>us (aK c (.bool true) e st) fun f=>aD f (C 91 [b] st fun g h=>Q g h) (us (bQ (.toInt .u64) a st) fun i=>C 183 [b,i] st fun j k=>Q j k)):=by kernel_rfl
theorem RH (C:aN)(a b:CV)(st:St)(Q:CV->St->Prop):aH P0 C (lvs 155) 155 [a,b] st Q=(aD b (C 154 [a,(I 1)] st fun c d=>Q c d) (C 154 [a,(I 0)] st fun e f=>Q e f)):=by kernel_rfl
theorem Zl (C:aN)(a:CV)(st:St)(Q:CV->St->Prop):aH P0 C (lvs 66) 66 [a] st Q=(us (ai .eql (some .ptr) true a .aC st) fun c=>aD c (Q (.bool false) st) (C 65 [a,(I 1)] st fun d b=>us (ai .eql (some .int) true d (I 1) b) fun e=>Q e b)):=by kernel_rfl
theorem Zn (C:aN)(a:CV)(st:St)(Q:CV->St->Prop):aH P0 C (lvs 64) 64 [a] st Q=(C 91 [a] st fun d b=>us (bf [.aa,(.bool false)] [(0,1,d)] b) fun e=>upon (eO 246 e b) fun f c=>us (bf [.aC] [(0,1,f)] c) fun g=>upon (eO 248 g c) fun h i=>Q h i):=by kernel_rfl
theorem RR (C:aN)(b:CV)(st:St)(Q:CV->St->Prop):aH P0 C (lvs 140) 140 [b] st Q=(us (ai .neq (some .ptr) true b .aC st) fun a=>us (aS (ag true a) st (.ok b st)) fun c=>fB (ag true a) 1 c st fun d=>us (aS (ag true a) st (fA .not d st)) fun e=>us (aK a e (.bool false) st) fun f=>Q f st):=by kernel_rfl
theorem YS (C:aN)(b:CV)(st:St)(Q:CV->St->Prop):aH P0 C (lvs 99) 99 [b] st Q=(us (ai .neq (some .ptr) true b .aC st) fun a=>us (aS (ag true a) st (.ok b st)) fun d=>fB (ag true a) 0 d st fun e=>cb (ag true a) st (fun k=>C 140 [e] st k) fun f c=>us (aK a f (.bool false) c) fun g=>Q g c):=by kernel_rfl
theorem Zj (C:aN)(d:CV)(st:St)(Q:CV->St->Prop):aH P0 C (lvs 68) 68 [d] st Q=(C 99 [d] st fun a b=>us (aS (ag true a) b (.ok d b)) fun e=>cb (ag true a) b (fun k=>C 109 [e] b k) fun f c=>us (aS (ag true a) c (ai .eql (some .int) true f (I 0) c)) fun g=>us (aK a g (.bool false) c) fun h=>Q h c):=by kernel_rfl
theorem Zm (C:aN)(c d:CV)(st:St)(Q:CV->St->Prop):aH P0 C (lvs 65) 65 [c,d] st Q=(us (ai .eql (some .ptr) true c .aC st) fun i=>aD i (Q (I 0) st) (C 105 [c] st fun h a=>us (aB h 0 a) fun e=>us (aB h 1 a) fun f=>us (bQ (.toInt .i64) e a) fun j=>us (aS (ag true f) a (.ok d a)) fun k=>us (aS (ag true f) a (ai .geq (none) true k (I 0) a)) fun l=>us (aK f l (.bool false) a) fun g=>us (aS (ag true g) a (.ok e a)) fun m=>us (aS (ag true g) a (ai .leq (none) true m (.int .u64 2147483647) a)) fun n=>us (aK g n (.bool false) a) fun b=>us (aS (ag true b) a (.ok e a)) fun o=>us (aS (ag true b) a (bQ (.toInt .i64) o a)) fun p=>us (aS (ag true b) a (.ok d a)) fun q=>us (aS (ag true b) a (ai .leq (none) false p q a)) fun r=>us (aK b r (.bool false) a) fun s=>C 106 [c,j,s] a fun t u=>Q t u)):=by kernel_rfl
theorem Zk (C:aN)(b d:CV)(st:St)(Q:CV->St->Prop):aH P0 C (lvs 67) 67 [b,d] st Q=(us (ai .eql (some .ptr) true b .aC st) fun g=>aD g (Q (.str []) st) (C 65 [b,d] st fun e h=>C 99 [b] h fun i a=>us (fA .not i a) fun c=>us (aS (ag false c) a (.ok e a)) fun j=>us (aS (ag false c) a (.ok b a)) fun k=>fB (ag false c) 0 k a fun l=>fB (ag false c) 0 l a fun m=>us (aS (ag false c) a (bO .slice m a)) fun n=>us (aS (ag false c) a (ai .gtr (none) false j n a)) fun o=>us (aK c (.bool true) o a) fun p=>aD p (C 107 [b,(.str []),(.bool false)] a fun q r=>Q q r) (eN 0 b a fun s=>C 108 [s,e] a fun t f=>us (bQ .strOf t f) fun u=>C 107 [b,u,(.bool true)] f fun v w=>Q v w))):=by kernel_rfl
theorem R8 (C:aN)(a:CV)(st:St)(Q:CV->St->Prop):aH P0 C (lvs 109) 109 [a] st Q=(us (ai .eql (some .ptr) true a .aC st) fun b=>aD b (Q (I 0) st) (eN 0 a st fun c=>C 146 [c] st fun d e=>Q d e)):=by kernel_rfl
theorem Sc (C:aN)(c:CV)(st:St)(Q:CV->St->Prop):aH P0 C (lvs 105) 105 [c] st Q=(C 99 [c] st fun h d=>us (fA .not h d) fun i=>aD i (Q (.tuple [(.int .u64 0),(.bool false)]) d) (eN 0 c d fun j=>eN 0 j d fun k=>C 145 [k] d fun g a=>us (aB g 0 a) fun l=>us (aB g 1 a) fun f=>us (ai .leq (none) true f (I 0) a) fun e=>us (aS (ag false e) a (.ok f a)) fun m=>us (aS (ag false e) a (ai .gtr (none) true m (I 1) a)) fun n=>us (aS (ag false e) a (.ok n a)) fun b=>us (aS (ag true b) a (.ok c a)) fun o=>fB (ag true b) 0 o a fun p=>fB (ag true b) 0 p a fun q=>us (aS (ag true b) a (.ok f a)) fun r=>us (aS (ag true b) a (ai .sub (none) true r (I 1) a)) fun s=>sm (ag true b) 1 q s a fun t=>us (aS (ag true b) a (ai .eql (some .int) true t (.int .u8 0) a)) fun u=>us (aS (ag false e) a (aK b u (.bool false) a)) fun v=>us (aK e (.bool true) v a) fun w=>aD w (Q (.tuple [(.int .u64 0),(.bool false)]) a) (eN 0 c a fun x=>C 108 [x,f] a fun z y=>Q (.tuple [l,(.bool true)]) y))):=by kernel_rfl
theorem Sb (C:aN)(a c d:CV)(st:St)(Q:CV->St->Prop):aH P0 C (lvs 106) 106 [a,c,d] st Q=(cN (fun e b=>eN 0 (ak 0 e) b fun g=>eN 1 g b fun h=>aD h (Q (I 0) b) (Q (ak 1 e) b)) fun f=>us (fA .not d st) fun i=>aD i (eN 0 a st fun j=>kh 1 1 j (.bool true) st fun k=>f [a,c] k) (f [a,c] st)):=by kernel_rfl
theorem Sa (C:aN)(a c d:CV)(st:St)(Q:CV->St->Prop):aH P0 C (lvs 107) 107 [a,c,d] st Q=(cN (fun e b=>eN 0 (ak 0 e) b fun g=>eN 1 g b fun h=>aD h (Q (.str []) b) (Q (ak 1 e) b)) fun f=>us (fA .not d st) fun i=>aD i (eN 0 a st fun j=>kh 1 1 j (.bool true) st fun k=>f [a,c] k) (f [a,c] st)):=by kernel_rfl
theorem R9 (C:aN)(a b:CV)(st:St)(Q:CV->St->Prop):aH P0 C (lvs 108) 108 [a,b] st Q=(eN 0 a st fun c=>us (cc 1 c none (some b) st) fun d=>eN 0 a st fun e=>us (cc 1 e (some b) none st) fun f=>kh 1 0 a f st fun g=>Q d g):=by kernel_rfl
theorem RN (C:aN)(a:CV)(st:St)(Q:CV->St->Prop):aH P0 C (lvs 146) 146 [a] st Q=(us (ai .eql (some .ptr) true a .aC st) fun b=>us (aS (ag false b) st (.ok a st)) fun c=>fB (ag false b) 1 c st fun d=>us (aK b (.bool true) d st) fun e=>aD e (Q (I 0) st) (eN 0 a st fun f=>us (bO .slice f st) fun g=>Q g st)):=by kernel_rfl
theorem RO (C:aN)(e:CV)(st:St)(Q:CV->St->Prop):aH P0 C (lvs 145) 145 [e] st Q=(cN (fun d i=>cf (fun b a j=>us (ai .lss (none) false (ak 3 b) (ak 2 b) a) fun k=>aD k (idx 1 (ak 1 b) (ak 3 b) a fun f=>us (ai .eql (some .int) true (ak 3 b) (I 10) a) fun c=>us (aS (ag false c) a (.ok (ak 3 b) a)) fun l=>us (aS (ag false c) a (ai .eql (some .int) true l (I 9) a)) fun m=>us (aS (ag false c) a (.ok m a)) fun g=>us (aS (ag true g) a (.ok f a)) fun n=>us (aS (ag true g) a (ai .gtr (none) true n (.int .u8 1) a)) fun o=>us (aS (ag false c) a (aK g o (.bool false) a)) fun p=>us (aK c (.bool true) p a) fun q=>aD q (Q (.tuple [(.int .u64 0),(I 0)]) a) (us (ai .and (none) true f (.int .u8 127) a) fun r=>us (bQ (.toInt .u64) r a) fun s=>us (ai .mul (none) true (I 7) (ak 3 b) a) fun t=>us (ai .shl (none) false s t a) fun u=>us (ai .or (none) false (ak 0 b) u a) fun h=>us (ai .lss (none) true f (.int .u8 128) a) fun v=>aD v (us (ai .add (none) true (ak 3 b) (I 1) a) fun w=>Q (.tuple [h,w]) a) (us (ai .add (none) true (ak 3 b) (I 1) a) fun x=>j [h,(ak 1 b),(ak 2 b),x] a))) (Q (.tuple [(.int .u64 0),(I 0)]) a)) [(ak 0 d),(ak 1 d),(ak 2 d),(ak 3 d)] i) fun y=>us (bO .slice e st) fun z=>y [(.int .u64 0),e,z,(I 0)] st):=by kernel_rfl
