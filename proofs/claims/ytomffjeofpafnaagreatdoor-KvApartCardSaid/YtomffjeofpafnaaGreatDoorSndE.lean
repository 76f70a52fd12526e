import Derived.Test.YtomffjeofpafnaaGreatDoorSndD
import Derived.Test.YtomffjeofpafnaaGreatDoorSort
namespace Lim
open Go Go.RowKit Go.Maps Go.Sort Go.Shelf Go.Proofs Go.Proofs.YtomffjeofpafnaaGreatDoor
noncomputable section
set_option linter.defProp false
set_option maxRecDepth 100000
def Pw (m:Nat):AnyZI.SortsIn P0 Tryz.sortedA_ren Fence.wide m:=
 ⟨λblk off cap ss W hH aaw hsz=>callsIn_wide.2 (AnyM.slices_Sort_int Tryz.sortA blk off cap ss W hH aaw hsz),
  λp cap W=>callsIn_wide.2 (AnyM.slices_Sort_int_none Tryz.sortA p cap W)⟩
def Ul:Ks P0 121 163 3 where
 ia:=vN
 und:=Tryz.underlying3
 out:=λB b nn D0 R w sU hB yS ZY aav=>by
  have anw:SeqGives Fence.wide 2 P0 163 #[.pointer (some ⟨B,0,none⟩)] encZ (λss=>ss.Perm (intKeys D0)) (Maps.size D0) w:=
   AnyZI.keys_gives (ρ:=Tryz.keysA_ren) {Tryz.keysA with} Fence.wide _ trivial rfl qE B b nn D0 w hB sU yS
  have cS:=AnyZI.sorted_in Tryz.sortedA Fence.wide 5 trivial trivial trivial trivial rfl qE (Pw _) (enters_of Tryz.func162 vN rfl) 163 #[.pointer (some ⟨B,0,none⟩)] trivial (enters_of Tryz.func163 vN rfl) _ _ ZY aav _ anw;change CallsIn _ _ P0 121 _ _ _ at cS;refine(callsIn_wide.1 cS).mono ?_;rintro e w' ⟨v,ss,rfl,hS,gG,JT,hb⟩;exact⟨v,ss,rfl,hS,gG,JT,hb⟩
def S8:nN P0 I0:=by
 intro f args st v st' h;unfold I0 at h;simp only[aP,aFw]at h
 split at h
 .rename_i e;subst e;exact Az Bh Ig (ud u7 u7) vN Zk Zj h
 .split at h
  .rename_i e;subst e;exact Az Bh Ig (ud u7 u7) vN U4 U3 h
  .split at h
   .rename_i e;subst e;exact FK Ul h
   .split at h
    .rename_i e;subst e;exact HH VU h
    .cases h
