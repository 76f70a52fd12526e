import Derived.Test.YtomffjeofpafnaaGreatDoorSndD
import Derived.Test.YtomffjeofpafnaaGreatDoorSort
namespace Lim
open Go Go.RowKit Go.Maps Go.Sort Go.Shelf Go.Proofs Go.Proofs.YtomffjeofpafnaaGreatDoor
noncomputable section
set_option linter.defProp false
set_option maxRecDepth 100000
def NX (m:Nat):AnyZI.SortsIn P0 Tryz.sortedA_ren Fence.wide m:=
 ⟨λblk off cap ss W hH Zj hsz=>callsIn_wide.2 (AnyM.slices_Sort_int Tryz.sortA blk off cap ss W hH Zj hsz),
  λp cap W=>callsIn_wide.2 (AnyM.slices_Sort_int_none Tryz.sortA p cap W)⟩
def Su:Jv P0 121 163 3 where
 gR:=yN
 und:=Tryz.underlying3
 out:=λB b nn D0 R w sh hB xf YG Zi=>by
  have amm:SeqGives Fence.wide 2 P0 163 #[.pointer (some ⟨B,0,none⟩)] encZ (λss=>ss.Perm (intKeys D0)) (Maps.size D0) w:=
   AnyZI.keys_gives (ρ:=Tryz.keysA_ren) {Tryz.keysA with} Fence.wide _ trivial rfl pX B b nn D0 w hB sh xf
  have cS:=AnyZI.sorted_in Tryz.sortedA Fence.wide 5 trivial trivial trivial trivial rfl pX (NX _) (enters_of Tryz.func162 yN rfl) 163 #[.pointer (some ⟨B,0,none⟩)] trivial (enters_of Tryz.func163 yN rfl) _ _ YG Zi _ amm;change CallsIn _ _ P0 121 _ _ _ at cS;refine(callsIn_wide.1 cS).mono ?_;rintro e w' ⟨v,ss,rfl,hS,jB,I3,hb⟩;exact⟨v,ss,rfl,hS,jB,I3,hb⟩
def Ri:nH P0 I0:=by
 intro f args st v st' h;unfold I0 at h;simp only[aO,aDZ]at h
 split at h
 .rename_i e;subst e;exact zN AA Hr (tC wI wI) yN XX XW h
 .split at h
  .rename_i e;subst e;exact zN AA Hr (tC wI wI) yN Tm Tl h
  .split at h
   .rename_i e;subst e;exact ER Su h
   .split at h
    .rename_i e;subst e;exact G0 Uq h
    .cases h
