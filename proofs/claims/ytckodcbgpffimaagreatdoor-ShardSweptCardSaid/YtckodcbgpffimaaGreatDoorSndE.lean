import Derived.Test.YtckodcbgpffimaaGreatDoorSndD
import Derived.Test.YtckodcbgpffimaaGreatDoorSort
namespace Lim
open Go Go.RowKit Go.Maps Go.Sort Go.Shelf Go.Proofs Go.Proofs.YtckodcbgpffimaaGreatDoor
noncomputable section
set_option linter.defProp false
set_option maxRecDepth 100000
def Rl (m:Nat):AnyZI.SortsIn P0 Tryz.sortedA_ren Fence.wide m:=
 ⟨λblk off cap c W d b a=>callsIn_wide.2 (AnyM.slices_Sort_int Tryz.sortA blk off cap c W d b a),
  λp cap W=>callsIn_wide.2 (AnyM.slices_Sort_int_none Tryz.sortA p cap W)⟩
def VU:MM P0 158 206 3 where
 iP:=uV
 und:=Tryz.underlying3
 out:=λBq0 b nn D0 Rq0 w iw hB qz acY adH=>by
  have atb:SeqGives Fence.wide 2 P0 206 #[.pointer (Φ ⟨Bq0,0,ν⟩)] encZ (λss=>ss.Perm (intKeys D0)) (Maps.size D0) w:=
   AnyZI.keys_gives (ρ:=Tryz.keysA_ren) {Tryz.keysA with} Fence.wide _ trivial rfl J Bq0 b nn D0 w hB iw qz
  have cS:=AnyZI.sorted_in Tryz.sortedA Fence.wide 5 trivial trivial trivial trivial rfl J (Rl _) (enters_of Tryz.func205 uV rfl) 206 #[.pointer (Φ ⟨Bq0,0,ν⟩)] trivial (enters_of Tryz.func206 uV rfl) _ _ acY adH _ atb;change CallsIn _ _ P0 158 _ _ _ at cS;refine(callsIn_wide.1 cS).mono ?_;rintro e w' ⟨v,ss,rfl,hS,jV,BN,hb⟩;exact⟨v,ss,rfl,hS,jV,BN,hb⟩
def UU:sn P0 I0:=by
 intro f args Z v Z' h;unfold I0 at h;simp only[aS,md]at h
 split at h
 .rename_i e;subst e;exact BC CB JX (vN tW tW) uV ach acg h
 .split at h
  .rename_i e;subst e;exact BC CB JX (vN tW tW) uV Xb Xa h
  .split at h
   .rename_i e;subst e;exact HB VU h
   .split at h
    .rename_i e;subst e;exact Jz XZ h
    .cases h
