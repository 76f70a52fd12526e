import Derived.Test.YtpnegnecgghdcaaGreatDoorSimCm
import Derived.Test.YtpnegnecgghdcaaGreatDoorSimIn
namespace Sim
open Go Go.RowKit Go.Maps Go.Sort Go.Shelf Go.Proofs Go.Proofs.YtpnegnecgghdcaaGreatDoor

theorem P0_mixed : P0.follows .mixedOrders = true := by kernel_rfl
theorem ov84 : OvFn P0 84 :=
  ⟨62, 4, 68, _, Tryz.underlying62, Tryz.sizeOf68, fun args w => run_callFunc_extern Tryz.func84 (by kernel_rfl) (by kernel_rfl) (by kernel_rfl) (e := Extern.SlicesOverlaps.overlaps #[62, 62] #[4]) (by kernel_rfl) args w⟩
theorem ov154 : OvFn P0 154 :=
  ⟨37, 4, 3, _, Tryz.underlying37, Tryz.sizeOf3, fun args w => run_callFunc_extern Tryz.func154 (by kernel_rfl) (by kernel_rfl) (by kernel_rfl) (e := Extern.SlicesOverlaps.overlaps #[37, 37] #[4]) (by kernel_rfl) args w⟩
theorem copy95 : CopyFn P0 95 512 := by
  refine ⟨Tryz.f95, 116, 3, 125, 20, _, _, _, _, _, _, _, _, _, _, _, _, _, _, _, _, _, _, Tryz.func95, by kernel_rfl, rfl, by decide, rfl, rfl, rfl, rfl, rfl, ?_, ⟨rfl, rfl⟩, ⟨rfl, rfl⟩, ⟨rfl, rfl⟩, ⟨rfl, rfl⟩, ⟨rfl, rfl⟩, ⟨rfl, rfl⟩, ⟨rfl, rfl⟩, ⟨rfl, rfl⟩, ⟨rfl, rfl⟩, ⟨rfl, rfl⟩, ⟨rfl, rfl⟩, ⟨rfl, rfl⟩, ⟨rfl, rfl⟩, ⟨rfl, rfl⟩, Tryz.underlying116, by kernel_rfl, by decide, by kernel_rfl, ?_, Tryz.isAgg125⟩
  · intro o ho
    simp only [List.mem_cons, List.not_mem_nil, or_false] at ho
    rcases ho with rfl | rfl | rfl | rfl | rfl | rfl | rfl | rfl | rfl | rfl | rfl | rfl | rfl | rfl <;> rfl
  · cases h : P0.info? 125 with
    | none => exact absurd h (by have : (P0.info? 125).isSome = true := by kernel_rfl
                                 intro e; rw [e] at this; cases this)
    | some i =>
      have hs : (P0.info? 125).map (·.size) = some 512 := by kernel_rfl
      have hz : (P0.info? 125).map (fun i => i.zero.map fun z => z.cells.size) = some (some 512) := by kernel_rfl
      rw [h] at hs hz
      simp only [Option.map_some, Option.some.injEq] at hs hz
      cases hzz : i.zero with
      | none => rw [hzz] at hz; cases hz
      | some z =>
        rw [hzz] at hz
        simp only [Option.map_some, Option.some.injEq] at hz
        exact ⟨i, z, rfl, hzz, hs, hz⟩
theorem sorts128 (m : Nat) : AnyZI.SortsIn P0 Tryz.sortedA_ren Fence.wide m :=
  ⟨fun blk off cap ss W hH hblk hsz => callsIn_wide.2 (AnyM.slices_Sort_int Tryz.sortA blk off cap ss W hH hblk hsz),
   fun p cap W => callsIn_wide.2 (AnyM.slices_Sort_int_none Tryz.sortA p cap W)⟩
theorem sort88 : SortFn P0 88 129 3 where
  callable := by kernel_rfl
  und := Tryz.underlying3
  out := fun B b nn D0 R w hcell hB hown hmax hbytes => by
    have hseq : SeqGives Fence.wide 2 P0 129 #[.pointer (some ⟨B, 0, none⟩)] encZ (fun ss => ss.Perm (intKeys D0)) (Maps.size D0) w :=
      AnyZI.keys_gives (ρ := Tryz.keysA_ren) { Tryz.keysA with } Fence.wide _ trivial rfl (by omega) B b nn D0 w hB hcell hown
    have cS := AnyZI.sorted_in Tryz.sortedA Fence.wide 5 trivial trivial trivial trivial rfl (by omega) (sorts128 _) (enters_of Tryz.func128 (by kernel_rfl) rfl) 129 #[.pointer (some ⟨B, 0, none⟩)] trivial (enters_of Tryz.func129 (by kernel_rfl) rfl) _ _ hmax hbytes _ hseq
    change CallsIn _ _ P0 88 _ _ _ at cS
    refine (callsIn_wide.1 cS).mono ?_
    rintro e w' ⟨v, ss, rfl, hS, hrow, hnil, hb⟩
    exact ⟨v, ss, rfl, hS, hrow, hnil, hb⟩

theorem optI {F : Option FunX} {k : FunX → FunX} {g : FunX} (h : (Option.rec none (fun F => some (k F)) F : Option FunX) = some g) : ∃ F0, F = some F0 ∧ g = k F0 := by
  cases F with
  | none => cases h
  | some F0 => cases h; exact ⟨F0, rfl, rfl⟩
theorem insI_some {f : Nat} {g : FunX} (h : insI f = some g) : ∃ F0, funXK P0 f = some F0 ∧ g = insG F0 := by
  unfold insI at h
  generalize funXK P0 f = o at h
  exact optI h
theorem flatI_some {f : Nat} {g : FunX} (h : flatI f = some g) : ∃ F0, funXK P0 f = some F0 ∧ g = flatG F0 := by
  unfold flatI at h
  generalize funXK P0 f = o at h
  exact optI h
theorem I2_sound : IntXSound P0 I2 := by
  intro f g h call hc args st v st' hv
  unfold I2 at h
  simp only [bsel_eq, Nat.beq_eq] at h
  repeat' split at h
  · rename_i e; subst e
    obtain ⟨F, hF, rfl⟩ := insI_some h
    exact insG_sound P0_mixed hF hc _ _ _ _ hv
  · rename_i e; subst e
    obtain ⟨F, hF, rfl⟩ := insI_some h
    exact insG_sound P0_mixed hF hc _ _ _ _ hv
  · rename_i e; subst e; cases h
    exact ovG_sound ov84 call _ _ _ _ hv
  · rename_i e; subst e; cases h
    exact ovG_sound ov154 call _ _ _ _ hv
  · rename_i e; subst e; cases h
    exact sortG_sound sort88 call _ _ _ _ hv
  · rename_i e; subst e; cases h
    exact copyG_sound copy95 hv
  · rename_i e; subst e
    obtain ⟨F, hF, rfl⟩ := flatI_some h
    exact flatG_sound P0_mixed hF hc _ _ _ _ hv
  · cases h
end Sim
