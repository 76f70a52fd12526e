import Derived.Test.YtomffjeofpafnaaGreatDoorSndD
import Derived.Test.YtomffjeofpafnaaGreatDoorSort
namespace Lim
open Go Go.RowKit Go.Maps Go.Sort Go.Shelf Go.Proofs Go.Proofs.YtomffjeofpafnaaGreatDoor
noncomputable section
set_option linter.defProp false
set_option maxRecDepth 100000
def Px (m:Nat):AnyZI.SortsIn P0 Tryz.sortedA_ren Fence.wide m:=
 ⟨λblk off cap c W d b a=>callsIn_wide.2 (AnyM.slices_Sort_int Tryz.sortA blk off cap c W d b a),
  λp cap W=>callsIn_wide.2 (AnyM.slices_Sort_int_none Tryz.sortA p cap W)⟩
def Ug:KX P0 121 163 3 where
 iq:=zR
 und:=Tryz.underlying3
 out:=λB b nn D0 R w tb hB w9 aab aaP=>by
  have apL:SeqGives Fence.wide 2 P0 163 #[.pointer (some ⟨B,0,none⟩)] encZ (λss=>ss.Perm (intKeys D0)) (Maps.size D0) w:=
   AnyZI.keys_gives (ρ:=Tryz.keysA_ren) {Tryz.keysA with} Fence.wide _ trivial rfl uM B b nn D0 w hB tb w9
  have cS:=AnyZI.sorted_in Tryz.sortedA Fence.wide 5 trivial trivial trivial trivial rfl uM (Px _) (enters_of Tryz.func162 zR rfl) 163 #[.pointer (some ⟨B,0,none⟩)] trivial (enters_of Tryz.func163 zR rfl) _ _ aab aaP _ apL;change CallsIn _ _ P0 121 _ _ _ at cS;refine(callsIn_wide.1 cS).mono ?_;rintro e w' ⟨v,ss,rfl,hS,jT,Kt,hb⟩;exact⟨v,ss,rfl,hS,jT,Kt,hb⟩
def SV:qX P0 I0:=by
 intro f args st v st' h;unfold I0 at h;simp only[aO,aIs]at h
 split at h
 .rename_i e;subst e;exact AS BA IW (ur xI xI) zR Zo Zn h
 .split at h
  .rename_i e;subst e;exact AS BA IW (ur xI xI) zR Va U0 h
  .split at h
   .rename_i e;subst e;exact Gs Ug h
   .split at h
    .rename_i e;subst e;exact Ix Wa h
    .cases h
