import Derived.Test.YtomffjeofpafnaaGreatDoorSndD
import Derived.Test.YtomffjeofpafnaaGreatDoorSort
namespace Lim
open Go Go.RowKit Go.Maps Go.Sort Go.Shelf Go.Proofs Go.Proofs.YtomffjeofpafnaaGreatDoor
noncomputable section
set_option maxRecDepth 100000
theorem Ng (m:Nat):AnyZI.SortsIn P0 Tryz.sortedA_ren Fence.wide m:=
 ⟨fun blk off cap ss W hH XZ hsz=>callsIn_wide.2 (AnyM.slices_Sort_int Tryz.sortA blk off cap ss W hH XZ hsz),
  fun p cap W=>callsIn_wide.2 (AnyM.slices_Sort_int_none Tryz.sortA p cap W)⟩
theorem RE:IC P0 121 163 3 where
 gN:=by kernel_rfl
 und:=Tryz.underlying3
 out:=fun B b nn D0 R w lj hB vx Xq XY=>by
  have akf:SeqGives Fence.wide 2 P0 163 #[.pointer (some ⟨B,0,none⟩)] encZ (fun ss=>ss.Perm (intKeys D0)) (Maps.size D0) w:=
   AnyZI.keys_gives (ρ:=Tryz.keysA_ren) {Tryz.keysA with} Fence.wide _ trivial rfl (by omega) B b nn D0 w hB lj vx
  have cS:=AnyZI.sorted_in Tryz.sortedA Fence.wide 5 trivial trivial trivial trivial rfl (by omega) (Ng _) (enters_of Tryz.func162 (by kernel_rfl) rfl) 163 #[.pointer (some ⟨B,0,none⟩)] trivial (enters_of Tryz.func163 (by kernel_rfl) rfl) _ _ Xq XY _ akf;change CallsIn _ _ P0 121 _ _ _ at cS;refine(callsIn_wide.1 cS).mono ?_;rintro e w' ⟨v,ss,rfl,hS,gw,H0,hb⟩;exact⟨v,ss,rfl,hS,gw,H0,hb⟩
theorem Qq:mZ P0 I0:=by
 intro f args st v st' h;unfold I0 at h;simp only[aM,aBB]at h
 split at h
 ·rename_i e;subst e;exact zh zY Gz (sV (by decide) (by decide)) (by kernel_rfl) Wx Ww h
 ·split at h
  ·rename_i e;subst e;exact zh zY Gz (sV (by decide) (by decide)) (by kernel_rfl) Sj Si h
  ·split at h
   ·rename_i e;subst e;exact Eg RE h
   ·split at h
    ·rename_i e;subst e;exact Gd Tt h
    ·cases h
