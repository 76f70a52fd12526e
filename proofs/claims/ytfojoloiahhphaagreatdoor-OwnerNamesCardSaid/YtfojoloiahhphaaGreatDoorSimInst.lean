import Derived.Test.YtfojoloiahhphaaGreatDoorSimCm
import Derived.Test.YtfojoloiahhphaaGreatDoorSimIn
import Derived.Test.YtfojoloiahhphaaGreatDoorSimI7
namespace Sim
open Go Go.RowKit Go.Maps Go.Sort Go.Shelf Go.Proofs Go.Proofs.YtfojoloiahhphaaGreatDoor

theorem P0_mixed : P0.follows .mixedOrders = true := by kernel_rfl
theorem ov211 : OvFn P0 211 :=
  ⟨256, 4, 262, _, Tryz.underlying256, Tryz.sizeOf262, fun args w => run_callFunc_extern Tryz.func211 (by kernel_rfl) (by kernel_rfl) (by kernel_rfl) (e := Extern.SlicesOverlaps.overlaps #[256, 256] #[4]) (by kernel_rfl) args w⟩
theorem ov274 : OvFn P0 274 :=
  ⟨72, 4, 3, _, Tryz.underlying72, Tryz.sizeOf3, fun args w => run_callFunc_extern Tryz.func274 (by kernel_rfl) (by kernel_rfl) (by kernel_rfl) (e := Extern.SlicesOverlaps.overlaps #[72, 72] #[4]) (by kernel_rfl) args w⟩
theorem ov228 : OvFn P0 228 :=
  ⟨49, 4, 57, _, Tryz.underlying49, Tryz.sizeOf57, fun args w => run_callFunc_extern Tryz.func228 (by kernel_rfl) (by kernel_rfl) (by kernel_rfl) (e := Extern.SlicesOverlaps.overlaps #[49, 49] #[4]) (by kernel_rfl) args w⟩
theorem copy161 : CopyFn P0 161 512 := by
  refine ⟨Tryz.f161, 217, 3, 222, 20, _, _, _, _, _, _, _, _, _, _, _, _, _, _, _, _, _, _, Tryz.func161, by kernel_rfl, rfl, by decide, rfl, rfl, rfl, rfl, rfl, ?_, ⟨rfl, rfl⟩, ⟨rfl, rfl⟩, ⟨rfl, rfl⟩, ⟨rfl, rfl⟩, ⟨rfl, rfl⟩, ⟨rfl, rfl⟩, ⟨rfl, rfl⟩, ⟨rfl, rfl⟩, ⟨rfl, rfl⟩, ⟨rfl, rfl⟩, ⟨rfl, rfl⟩, ⟨rfl, rfl⟩, ⟨rfl, rfl⟩, ⟨rfl, rfl⟩, Tryz.underlying217, by kernel_rfl, by decide, by kernel_rfl, ?_, Tryz.isAgg222⟩
  · intro o ho
    simp only [List.mem_cons, List.not_mem_nil, or_false] at ho
    rcases ho with rfl | rfl | rfl | rfl | rfl | rfl | rfl | rfl | rfl | rfl | rfl | rfl | rfl | rfl <;> rfl
  · cases h : P0.info? 222 with
    | none => exact absurd h (by have : (P0.info? 222).isSome = true := by kernel_rfl
                                 intro e; rw [e] at this; cases this)
    | some i =>
      have hs : (P0.info? 222).map (·.size) = some 512 := by kernel_rfl
      have hz : (P0.info? 222).map (fun i => i.zero.map fun z => z.cells.size) = some (some 512) := by kernel_rfl
      rw [h] at hs hz
      simp only [Option.map_some, Option.some.injEq] at hs hz
      cases hzz : i.zero with
      | none => rw [hzz] at hz; cases hz
      | some z =>
        rw [hzz] at hz
        simp only [Option.map_some, Option.some.injEq] at hz
        exact ⟨i, z, rfl, hzz, hs, hz⟩
theorem sorts215 (m : Nat) : AnyZI.SortsIn P0 Tryz.sortedA_ren Fence.wide m :=
  ⟨fun blk off cap ss W hH hblk hsz => callsIn_wide.2 (AnyM.slices_Sort_int Tryz.sortA blk off cap ss W hH hblk hsz),
   fun p cap W => callsIn_wide.2 (AnyM.slices_Sort_int_none Tryz.sortA p cap W)⟩
theorem sort153 : SortFn P0 153 216 3 where
  callable := by kernel_rfl
  und := Tryz.underlying3
  out := fun B b nn D0 R w hcell hB hown hmax hbytes => by
    have hseq : SeqGives Fence.wide 2 P0 216 #[.pointer (some ⟨B, 0, none⟩)] encZ (fun ss => ss.Perm (intKeys D0)) (Maps.size D0) w :=
      AnyZI.keys_gives (ρ := Tryz.keysA_ren) { Tryz.keysA with } Fence.wide _ trivial rfl (by omega) B b nn D0 w hB hcell hown
    have cS := AnyZI.sorted_in Tryz.sortedA Fence.wide 5 trivial trivial trivial trivial rfl (by omega) (sorts215 _) (enters_of Tryz.func215 (by kernel_rfl) rfl)  216 #[.pointer (some ⟨B, 0, none⟩)] trivial (enters_of Tryz.func216 (by kernel_rfl) rfl) _ _ hmax hbytes _ hseq
    change CallsIn _ _ P0 153 _ _ _ at cS
    refine (callsIn_wide.1 cS).mono ?_
    rintro e w' ⟨v, ss, rfl, hS, hrow, hnil, hb⟩
    exact ⟨v, ss, rfl, hS, hrow, hnil, hb⟩

theorem optI {F : Option FunX} {k : FunX → FunX} {g : FunX} (h : (Option.rec none (fun F => some (k F)) F : Option FunX) = some g) : ∃ F0, F = some F0 ∧ g = k F0 := by
  cases F with
  | none => cases h
  | some F0 => cases h; exact ⟨F0, rfl, rfl⟩
theorem insI_some {f : Nat} {g : FunX} (h : insI f = some g) : ∃ F0, funXK P0 f = some F0 ∧ g = insG F0 := by
  unfold insI at h
  generalize funXK P0 f = o at h
  exact optI h
theorem flatI_some {f : Nat} {g : FunX} (h : flatI f = some g) : ∃ F0, funXK P0 f = some F0 ∧ g = flatG F0 := by
  unfold flatI at h
  generalize funXK P0 f = o at h
  exact optI h
theorem reloI_some {f : Nat} {g : FunX} (h : reloI f = some g) : ∃ F0, funXK P0 f = some F0 ∧ g = reloG F0 := by
  unfold reloI at h
  generalize funXK P0 f = o at h
  exact optI h
theorem toldI_some {g : FunX} (h : toldI = some g) : ∃ F0, funXK P0 29 = some F0 ∧ g = toldG F0 := by
  unfold toldI at h
  generalize funXK P0 29 = o at h
  exact optI h
theorem relo_sound {f : Nat} {call : CallF} (hc : CallSound P0 call) {g : FunX} (h : reloI f = some g) {args : List CV} {st : St} {v : CV} {st' : St} (hv : g call args st = .ok v st') : CallOut P0 f args st v st' := by
  obtain ⟨F, hF, rfl⟩ := reloI_some h
  exact .inl (reloG_ok (fun _ _ _ _ h => funXK_plain P0_mixed hF hc h) hv)
theorem I2_sound : IntXSound P0 I2 := by
  intro f g h call hc args st v st' hv
  unfold I2 at h
  rw [bsel_eq] at h
  split at h
  · rename_i e
    rw [Nat.beq_eq] at e
    subst e
    obtain ⟨F, hF, rfl⟩ := insI_some h
    exact insG_sound P0_mixed hF hc _ _ _ _ hv
  rw [bsel_eq] at h
  split at h
  · rename_i e
    rw [Nat.beq_eq] at e
    subst e
    obtain ⟨F, hF, rfl⟩ := insI_some h
    exact insG_sound P0_mixed hF hc _ _ _ _ hv
  rw [bsel_eq] at h
  split at h
  · rename_i e
    rw [Nat.beq_eq] at e
    subst e
    obtain ⟨F, hF, rfl⟩ := insI_some h
    exact insG_sound P0_mixed hF hc _ _ _ _ hv
  rw [bsel_eq] at h
  split at h
  · rename_i e
    rw [Nat.beq_eq] at e
    subst e
    cases h
    exact ovG_sound ov211 call _ _ _ _ hv
  rw [bsel_eq] at h
  split at h
  · rename_i e
    rw [Nat.beq_eq] at e
    subst e
    cases h
    exact ovG_sound ov274 call _ _ _ _ hv
  rw [bsel_eq] at h
  split at h
  · rename_i e
    rw [Nat.beq_eq] at e
    subst e
    cases h
    exact ovG_sound ov228 call _ _ _ _ hv
  rw [bsel_eq] at h
  split at h
  · rename_i e
    rw [Nat.beq_eq] at e
    subst e
    cases h
    exact sortG_sound sort153 call _ _ _ _ hv
  rw [bsel_eq] at h
  split at h
  · rename_i e
    rw [Nat.beq_eq] at e
    subst e
    cases h
    exact copyG_sound copy161 hv
  rw [bsel_eq] at h
  split at h
  · rename_i e
    rw [Nat.beq_eq] at e
    subst e
    obtain ⟨F, hF, rfl⟩ := flatI_some h
    exact flatG_sound P0_mixed hF hc _ _ _ _ hv
  rw [bsel_eq] at h
  split at h
  · rename_i e
    rw [Nat.beq_eq] at e
    subst e
    exact relo_sound hc h hv
  rw [bsel_eq] at h
  split at h
  · rename_i e
    rw [Nat.beq_eq] at e
    subst e
    exact relo_sound hc h hv
  rw [bsel_eq] at h
  split at h
  · rename_i e
    rw [Nat.beq_eq] at e
    subst e
    exact relo_sound hc h hv
  rw [bsel_eq] at h
  split at h
  · rename_i e
    rw [Nat.beq_eq] at e
    subst e
    obtain ⟨F, hF, rfl⟩ := toldI_some h
    exact toldG_sound P0_mixed hF hc _ _ _ _ hv
  cases h
end Sim
