import Derived.Shelf.SlIterI.Nil
import Derived.Shelf.SortM.Plain
import Derived.Shelf.SortM.SortNone
import Derived.Ground.GgzProg
import Derived.Ground.SlgmProg
import Derived.Test.YtpinmfjiiapgfaaGreatDoorProg
import Derived.Test.YtpinmfjiiapgfaaGreatDoorCm
import Derived.Test.YtpinmfjiiapgfaaGreatDoorSimE
namespace Go.Proofs.YtpinmfjiiapgfaaGreatDoor
open Go Go.RowKit Go.Maps Go.Sort Go.Shelf Go.Proofs


def Tryz.keysA_ren : Go.Shelf.Ren := ⟨fun | 7 => 177 | 10 => 246 | n => n, fun | 23 => 179 | 26 => 3 | 3 => 183 | 28 => 285 | 0 => 0 | 27 => 251 | 33 => 22 | 4 => 4 | n => n, fun | n => n⟩
theorem Tryz.keysA : Go.Proofs.SlLaysZI.n7 Tryz.prog Tryz.keysA_ren where
  mixed := by kernel_rfl
  f7 := ⟨"maps.Keys[map[int]buttery/pager.page,int,buttery/pager.page]", by decide, Tryz.func177.trans (congrArg some (by kernel_rfl))⟩
  f10 := ⟨"maps.Keys[map[int]buttery/pager.page,int,buttery/pager.page]$1", by decide, Tryz.func246.trans (congrArg some (by kernel_rfl))⟩
  t0 := Tryz.underlying0
  a0 := Tryz.isAgg0
  z0 := Tryz.sizeOf0
  v0 := Tryz.zeroValue0
  t4 := Tryz.underlying4
  a4 := Tryz.isAgg4
  z4 := Tryz.sizeOf4
  v4 := Tryz.zeroValue4
  t23 := Tryz.underlying179
  a23 := Tryz.isAgg179
  z23 := Tryz.sizeOf179
  v23 := Tryz.zeroValue179
  t26 := Tryz.underlying3
  a26 := Tryz.isAgg3
  z26 := Tryz.sizeOf3
  v26 := Tryz.zeroValue3
  t27 := Tryz.underlying251
  a27 := Tryz.isAgg251
  z27 := Tryz.sizeOf251
  v27 := Tryz.zeroValue251
  t28 := Tryz.underlying285
  a28 := Tryz.isAgg285
  z28 := Tryz.sizeOf285
  v28 := Tryz.zeroValue285
  t33 := Tryz.underlying22
  a33 := Tryz.isAgg22
  z33 := Tryz.sizeOf22
  v33 := Tryz.zeroValue22
def Tryz.sortedA_ren : Go.Shelf.Ren := ⟨fun | 6 => 176 | 8 => 245 | 9 => 217 | 11 => 288 | 13 => 273 | 12 => 272 | 23 => 308 | 24 => 309 | 14 => 299 | 15 => 300 | 16 => 301 | 17 => 302 | 18 => 303 | 19 => 304 | 20 => 305 | 21 => 306 | 22 => 307 | 25 => 325 | 26 => 326 | 27 => 327 | 28 => 328 | 29 => 329 | 30 => 322 | 31 => 340 | n => n, fun | 26 => 3 | 28 => 285 | 24 => 58 | 0 => 0 | 3 => 3 | 37 => 81 | 48 => 382 | 50 => 232 | 4 => 4 | 40 => 376 | 39 => 375 | 45 => 245 | 5 => 5 | 9 => 9 | 51 => 394 | 55 => 398 | 57 => 405 | 58 => 168 | 33 => 22 | n => n, fun | n => n⟩
theorem Tryz.sortedA : Go.Proofs.SlLaysZI.n6 Tryz.prog Tryz.sortedA_ren where
  mixed := by kernel_rfl
  f6 := ⟨"slices.Sorted[int]", by decide, Tryz.func176.trans (congrArg some (by kernel_rfl))⟩
  f8 := ⟨"slices.Collect[int]", by decide, Tryz.func245.trans (congrArg some (by kernel_rfl))⟩
  f11 := ⟨"slices.AppendSeq[[]int,int]", by decide, Tryz.func288.trans (congrArg some (by kernel_rfl))⟩
  t0 := Tryz.underlying0
  a0 := Tryz.isAgg0
  z0 := Tryz.sizeOf0
  v0 := Tryz.zeroValue0
  t24 := Tryz.underlying58
  a24 := Tryz.isAgg58
  z24 := Tryz.sizeOf58
  v24 := Tryz.zeroValue58
  t26 := Tryz.underlying3
  a26 := Tryz.isAgg3
  z26 := Tryz.sizeOf3
  v26 := Tryz.zeroValue3
  t28 := Tryz.underlying285
  a28 := Tryz.isAgg285
  z28 := Tryz.sizeOf285
  v28 := Tryz.zeroValue285
  i26 := by kernel_rfl
def Tryz.sortA_ren : Go.Shelf.Ren := ⟨fun | 5 => 217 | 8 => 273 | 7 => 272 | 19 => 308 | 20 => 309 | 10 => 299 | 11 => 300 | 12 => 301 | 13 => 302 | 14 => 303 | 15 => 304 | 16 => 305 | 17 => 306 | 18 => 307 | 30 => 325 | 31 => 326 | 32 => 327 | 33 => 328 | 34 => 329 | 35 => 322 | 40 => 340 | n => n, fun | 23 => 58 | 25 => 3 | 3 => 3 | 32 => 81 | 22 => 58 | 0 => 0 | 44 => 382 | 46 => 232 | 4 => 4 | 36 => 376 | 35 => 375 | 41 => 245 | 5 => 5 | 9 => 9 | 53 => 394 | 57 => 398 | 63 => 405 | 64 => 168 | n => n, fun | n => n⟩
theorem Tryz.sortA : Go.Proofs.SlLaysM.n5 Tryz.prog Tryz.sortA_ren where
  mixed := by kernel_rfl
  f5 := ⟨"slices.Sort[[]int,int]", by decide, Tryz.func217.trans (congrArg some (by kernel_rfl))⟩
  f7 := ⟨"slices.pdqsortOrdered[int]", by decide, Tryz.func272.trans (congrArg some (by kernel_rfl))⟩
  f8 := Tryz.func273.trans (congrArg some (by kernel_rfl))
  f10 := ⟨"slices.insertionSortOrdered[int]", by decide, Tryz.func299.trans (congrArg some (by kernel_rfl))⟩
  f11 := ⟨"slices.heapSortOrdered[int]", by decide, Tryz.func300.trans (congrArg some (by kernel_rfl))⟩
  f12 := ⟨"slices.breakPatternsOrdered[int]", by decide, Tryz.func301.trans (congrArg some (by kernel_rfl))⟩
  f13 := ⟨"slices.choosePivotOrdered[int]", by decide, Tryz.func302.trans (congrArg some (by kernel_rfl))⟩
  f14 := ⟨"slices.reverseRangeOrdered[int]", by decide, Tryz.func303.trans (congrArg some (by kernel_rfl))⟩
  f15 := ⟨"slices.partialInsertionSortOrdered[int]", by decide, Tryz.func304.trans (congrArg some (by kernel_rfl))⟩
  f16 := ⟨"cmp.Less[int]", by decide, Tryz.func305.trans (congrArg some (by kernel_rfl))⟩
  f17 := ⟨"slices.partitionEqualOrdered[int]", by decide, Tryz.func306.trans (congrArg some (by kernel_rfl))⟩
  f18 := ⟨"slices.partitionOrdered[int]", by decide, Tryz.func307.trans (congrArg some (by kernel_rfl))⟩
  f19 := Tryz.func308.trans (congrArg some (by kernel_rfl))
  f20 := Tryz.func309.trans (congrArg some (by kernel_rfl))
  f30 := ⟨"slices.siftDownOrdered[int]", by decide, Tryz.func325.trans (congrArg some (by kernel_rfl))⟩
  f31 := Tryz.func326.trans (congrArg some (by kernel_rfl))
  f32 := Tryz.func327.trans (congrArg some (by kernel_rfl))
  f33 := ⟨"slices.medianAdjacentOrdered[int]", by decide, Tryz.func328.trans (congrArg some (by kernel_rfl))⟩
  f34 := ⟨"slices.medianOrdered[int]", by decide, Tryz.func329.trans (congrArg some (by kernel_rfl))⟩
  f35 := ⟨"cmp.isNaN[int]", by decide, Tryz.func322.trans (congrArg some (by kernel_rfl))⟩
  f40 := ⟨"slices.order2Ordered[int]", by decide, Tryz.func340.trans (congrArg some (by kernel_rfl))⟩
  t0 := Tryz.underlying0
  a0 := Tryz.isAgg0
  z0 := Tryz.sizeOf0
  v0 := Tryz.zeroValue0
  t3 := Tryz.underlying3
  a3 := Tryz.isAgg3
  z3 := Tryz.sizeOf3
  v3 := Tryz.zeroValue3
  t4 := Tryz.underlying4
  a4 := Tryz.isAgg4
  z4 := Tryz.sizeOf4
  v4 := Tryz.zeroValue4
  t5 := Tryz.underlying5
  a5 := Tryz.isAgg5
  z5 := Tryz.sizeOf5
  v5 := Tryz.zeroValue5
  t9 := Tryz.underlying9
  a9 := Tryz.isAgg9
  z9 := Tryz.sizeOf9
  v9 := Tryz.zeroValue9
  t22 := Tryz.underlying58
  a22 := Tryz.isAgg58
  z22 := Tryz.sizeOf58
  v22 := Tryz.zeroValue58
  t23 := Tryz.underlying58
  a23 := Tryz.isAgg58
  z23 := Tryz.sizeOf58
  v23 := Tryz.zeroValue58
  t25 := Tryz.underlying3
  a25 := Tryz.isAgg3
  z25 := Tryz.sizeOf3
  v25 := Tryz.zeroValue3
  t32 := Tryz.underlying81
  a32 := Tryz.isAgg81
  z32 := Tryz.sizeOf81
  v32 := Tryz.zeroValue81
  t35 := Tryz.underlying375
  a35 := Tryz.isAgg375
  z35 := Tryz.sizeOf375
  v35 := Tryz.zeroValue375
  t36 := Tryz.underlying376
  a36 := Tryz.isAgg376
  z36 := Tryz.sizeOf376
  v36 := Tryz.zeroValue376
  t41 := Tryz.underlying245
  a41 := Tryz.isAgg245
  z41 := Tryz.sizeOf245
  v41 := Tryz.zeroValue245
  t44 := Tryz.underlying382
  a44 := Tryz.isAgg382
  z44 := Tryz.sizeOf382
  v44 := Tryz.zeroValue382
  t46 := Tryz.underlying232
  a46 := Tryz.isAgg232
  z46 := Tryz.sizeOf232
  v46 := Tryz.zeroValue232
  t53 := Tryz.underlying394
  a53 := Tryz.isAgg394
  z53 := Tryz.sizeOf394
  v53 := Tryz.zeroValue394
  t57 := Tryz.underlying398
  a57 := Tryz.isAgg398
  z57 := Tryz.sizeOf398
  v57 := Tryz.zeroValue398
  t63 := Tryz.underlying405
  a63 := Tryz.isAgg405
  z63 := Tryz.sizeOf405
  v63 := Tryz.zeroValue405
  t64 := Tryz.underlying168
  a64 := Tryz.isAgg168
  z64 := Tryz.sizeOf168
  v64 := Tryz.zeroValue168
end Go.Proofs.YtpinmfjiiapgfaaGreatDoor

namespace Sim
open Go Go.RowKit Go.Maps Go.Sort Go.Shelf Go.Proofs Go.Proofs.YtpinmfjiiapgfaaGreatDoor

theorem P0_mixed : P0.follows .mixedOrders = true := by kernel_rfl
theorem ovA : OvFn P0 242 :=
  ⟨266, 4, 272, _, Tryz.underlying266, Tryz.sizeOf272, fun args w => run_callFunc_extern Tryz.func242 (by kernel_rfl) (by kernel_rfl) (by kernel_rfl) (e := Extern.SlicesOverlaps.overlaps #[266, 266] #[4]) (by kernel_rfl) args w⟩
theorem ovB : OvFn P0 310 :=
  ⟨58, 4, 3, _, Tryz.underlying58, Tryz.sizeOf3, fun args w => run_callFunc_extern Tryz.func310 (by kernel_rfl) (by kernel_rfl) (by kernel_rfl) (e := Extern.SlicesOverlaps.overlaps #[58, 58] #[4]) (by kernel_rfl) args w⟩
theorem copyA : CopyFn P0 182 512 := by
  refine ⟨Tryz.f182, 179, 3, 183, 20, _, _, _, _, _, _, _, _, _, _, _, _, _, _, _, _, _, _, Tryz.func182, by kernel_rfl, rfl, by decide, rfl, rfl, rfl, rfl, rfl, ?_, ⟨rfl, rfl⟩, ⟨rfl, rfl⟩, ⟨rfl, rfl⟩, ⟨rfl, rfl⟩, ⟨rfl, rfl⟩, ⟨rfl, rfl⟩, ⟨rfl, rfl⟩, ⟨rfl, rfl⟩, ⟨rfl, rfl⟩, ⟨rfl, rfl⟩, ⟨rfl, rfl⟩, ⟨rfl, rfl⟩, ⟨rfl, rfl⟩, ⟨rfl, rfl⟩, Tryz.underlying179, by kernel_rfl, by decide, by kernel_rfl, ?_, Tryz.isAgg183⟩
  · intro o ho
    simp only [List.mem_cons, List.not_mem_nil, or_false] at ho
    rcases ho with rfl | rfl | rfl | rfl | rfl | rfl | rfl | rfl | rfl | rfl | rfl | rfl | rfl | rfl <;> rfl
  · cases h : P0.info? 183 with
    | none => exact absurd h (by have : (P0.info? 183).isSome = true := by kernel_rfl
                                 intro e; rw [e] at this; cases this)
    | some i =>
      have hs : (P0.info? 183).map (·.size) = some 512 := by kernel_rfl
      have hz : (P0.info? 183).map (fun i => i.zero.map fun z => z.cells.size) = some (some 512) := by kernel_rfl
      rw [h] at hs hz
      simp only [Option.map_some, Option.some.injEq] at hs hz
      cases hzz : i.zero with
      | none => rw [hzz] at hz; cases hz
      | some z =>
        rw [hzz] at hz
        simp only [Option.map_some, Option.some.injEq] at hz
        exact ⟨i, z, rfl, hzz, hs, hz⟩
theorem sortsA (m : Nat) : AnyZI.SortsIn P0 Tryz.sortedA_ren Fence.wide m :=
  ⟨fun blk off cap ss W hH hblk hsz => callsIn_wide.2 (AnyM.slices_Sort_int Tryz.sortA blk off cap ss W hH hblk hsz),
   fun p cap W => callsIn_wide.2 (AnyM.slices_Sort_int_none Tryz.sortA p cap W)⟩
theorem sortB : SortFn P0 176 246 3 where
  callable := by kernel_rfl
  und := Tryz.underlying3
  out := fun B b nn D0 R w hcell hB hown hmax hbytes => by
    have hseq : SeqGives Fence.wide 2 P0 246 #[.pointer (some ⟨B, 0, none⟩)] encZ (fun ss => ss.Perm (intKeys D0)) (Maps.size D0) w :=
      AnyZI.keys_gives (ρ := Tryz.keysA_ren) { Tryz.keysA with } Fence.wide _ trivial rfl (by omega) B b nn D0 w hB hcell hown
    have cS := AnyZI.sorted_in Tryz.sortedA Fence.wide 5 trivial trivial trivial trivial rfl (by omega) (sortsA _) (enters_of Tryz.func217 (by kernel_rfl) rfl)  246 #[.pointer (some ⟨B, 0, none⟩)] trivial (enters_of Tryz.func246 (by kernel_rfl) rfl) _ _ hmax hbytes _ hseq
    change CallsIn _ _ P0 176 _ _ _ at cS
    refine (callsIn_wide.1 cS).mono ?_
    rintro e w' ⟨v, ss, rfl, hS, hrow, hnil, hb⟩
    exact ⟨v, ss, rfl, hS, hrow, hnil, hb⟩

theorem optI {F : Option FunX} {k : FunX → FunX} {g : FunX} (h : (Option.rec none (fun F => some (k F)) F : Option FunX) = some g) : ∃ F0, F = some F0 ∧ g = k F0 := by
  cases F with
  | none => cases h
  | some F0 => cases h; exact ⟨F0, rfl, rfl⟩
theorem insI_some {f : Nat} {g : FunX} (h : insI f = some g) : ∃ F0, funXK P0 f = some F0 ∧ g = insG F0 := by
  unfold insI at h
  generalize funXK P0 f = o at h
  exact optI h
theorem flatI_some {f : Nat} {g : FunX} (h : flatI f = some g) : ∃ F0, funXK P0 f = some F0 ∧ g = flatG F0 := by
  unfold flatI at h
  generalize funXK P0 f = o at h
  exact optI h
theorem reloI_some {f : Nat} {g : FunX} (h : reloI f = some g) : ∃ F0, funXK P0 f = some F0 ∧ g = reloG F0 := by
  unfold reloI at h
  generalize funXK P0 f = o at h
  exact optI h
theorem relo_sound {f : Nat} {call : CallF} (hc : CallSound P0 call) {g : FunX} (h : reloI f = some g) {args : List CV} {st : St} {v : CV} {st' : St} (hv : g call args st = .ok v st') : CallOut P0 f args st v st' := by
  obtain ⟨F, hF, rfl⟩ := reloI_some h
  exact .inl (reloG_ok (fun _ _ _ _ h => funXK_plain P0_mixed hF hc h) hv)
theorem I2_sound : IntXSound P0 I2 := by
  intro f g h call hc args st v st' hv
  unfold I2 at h
  rw [bsel_eq] at h
  split at h
  · rename_i e
    rw [Nat.beq_eq] at e
    subst e
    obtain ⟨F, hF, rfl⟩ := insI_some h
    exact insG_sound P0_mixed hF hc _ _ _ _ hv
  rw [bsel_eq] at h
  split at h
  · rename_i e
    rw [Nat.beq_eq] at e
    subst e
    obtain ⟨F, hF, rfl⟩ := insI_some h
    exact insG_sound P0_mixed hF hc _ _ _ _ hv
  rw [bsel_eq] at h
  split at h
  · rename_i e
    rw [Nat.beq_eq] at e
    subst e
    cases h
    exact ovG_sound ovA call _ _ _ _ hv
  rw [bsel_eq] at h
  split at h
  · rename_i e
    rw [Nat.beq_eq] at e
    subst e
    cases h
    exact ovG_sound ovB call _ _ _ _ hv
  rw [bsel_eq] at h
  split at h
  · rename_i e
    rw [Nat.beq_eq] at e
    subst e
    cases h
    exact sortG_sound sortB call _ _ _ _ hv
  rw [bsel_eq] at h
  split at h
  · rename_i e
    rw [Nat.beq_eq] at e
    subst e
    cases h
    exact copyG_sound copyA hv
  rw [bsel_eq] at h
  split at h
  · rename_i e
    rw [Nat.beq_eq] at e
    subst e
    obtain ⟨F, hF, rfl⟩ := flatI_some h
    exact flatG_sound P0_mixed hF hc _ _ _ _ hv
  rw [bsel_eq] at h
  split at h
  · rename_i e
    rw [Nat.beq_eq] at e
    subst e
    exact relo_sound hc h hv
  rw [bsel_eq] at h
  split at h
  · rename_i e
    rw [Nat.beq_eq] at e
    subst e
    exact relo_sound hc h hv
  rw [bsel_eq] at h
  split at h
  · rename_i e
    rw [Nat.beq_eq] at e
    subst e
    exact relo_sound hc h hv
  cases h
end Sim
