import Derived.Shelf.SlIterI.Nil
import Derived.Shelf.SortM.Plain
import Derived.Shelf.SortM.SortNone
import Derived.Ground.GgzProg
import Derived.Ground.SlgmProg
import Derived.Test.YtfojoloiahhphaaGreatDoorProg
namespace Go.Proofs.YtfojoloiahhphaaGreatDoor
open Go Go.RowKit Go.Maps Go.Sort Go.Shelf Go.Proofs


def Tryz.keysA_ren : Go.Shelf.Ren := ⟨fun | 7 => 154 | 10 => 216 | n => n, fun | 23 => 217 | 26 => 3 | 3 => 222 | 28 => 277 | 0 => 0 | 27 => 276 | 33 => 78 | 4 => 4 | n => n, fun | n => n⟩
theorem Tryz.keysA : Go.Proofs.SlLaysZI.n7 Tryz.prog Tryz.keysA_ren where
  mixed := by kernel_rfl
  f7 := ⟨"maps.Keys[map[int]buttery/pager.page,int,buttery/pager.page]", by decide, Tryz.func154.trans (congrArg some (by kernel_rfl))⟩
  f10 := ⟨"maps.Keys[map[int]buttery/pager.page,int,buttery/pager.page]$1", by decide, Tryz.func216.trans (congrArg some (by kernel_rfl))⟩
  t0 := Tryz.underlying0
  a0 := Tryz.isAgg0
  z0 := Tryz.sizeOf0
  v0 := Tryz.zeroValue0
  t4 := Tryz.underlying4
  a4 := Tryz.isAgg4
  z4 := Tryz.sizeOf4
  v4 := Tryz.zeroValue4
  t23 := Tryz.underlying217
  a23 := Tryz.isAgg217
  z23 := Tryz.sizeOf217
  v23 := Tryz.zeroValue217
  t26 := Tryz.underlying3
  a26 := Tryz.isAgg3
  z26 := Tryz.sizeOf3
  v26 := Tryz.zeroValue3
  t27 := Tryz.underlying276
  a27 := Tryz.isAgg276
  z27 := Tryz.sizeOf276
  v27 := Tryz.zeroValue276
  t28 := Tryz.underlying277
  a28 := Tryz.isAgg277
  z28 := Tryz.sizeOf277
  v28 := Tryz.zeroValue277
  t33 := Tryz.underlying78
  a33 := Tryz.isAgg78
  z33 := Tryz.sizeOf78
  v33 := Tryz.zeroValue78
def Tryz.sortedA_ren : Go.Shelf.Ren := ⟨fun | 6 => 153 | 8 => 214 | 9 => 215 | 11 => 253 | 13 => 231 | 12 => 254 | 23 => 268 | 24 => 269 | 14 => 284 | 15 => 285 | 16 => 286 | 17 => 287 | 18 => 288 | 19 => 289 | 20 => 290 | 21 => 291 | 22 => 292 | 25 => 304 | 26 => 297 | 27 => 298 | 28 => 305 | 29 => 306 | 30 => 234 | 31 => 310 | n => n, fun | 26 => 3 | 28 => 277 | 24 => 72 | 0 => 0 | 3 => 3 | 37 => 184 | 48 => 390 | 50 => 247 | 4 => 4 | 40 => 384 | 39 => 383 | 45 => 252 | 5 => 5 | 9 => 9 | 51 => 410 | 55 => 414 | 57 => 420 | 58 => 421 | 33 => 78 | n => n, fun | n => n⟩
theorem Tryz.sortedA : Go.Proofs.SlLaysZI.n6 Tryz.prog Tryz.sortedA_ren where
  mixed := by kernel_rfl
  f6 := ⟨"slices.Sorted[int]", by decide, Tryz.func153.trans (congrArg some (by kernel_rfl))⟩
  f8 := ⟨"slices.Collect[int]", by decide, Tryz.func214.trans (congrArg some (by kernel_rfl))⟩
  f11 := ⟨"slices.AppendSeq[[]int,int]", by decide, Tryz.func253.trans (congrArg some (by kernel_rfl))⟩
  t0 := Tryz.underlying0
  a0 := Tryz.isAgg0
  z0 := Tryz.sizeOf0
  v0 := Tryz.zeroValue0
  t24 := Tryz.underlying72
  a24 := Tryz.isAgg72
  z24 := Tryz.sizeOf72
  v24 := Tryz.zeroValue72
  t26 := Tryz.underlying3
  a26 := Tryz.isAgg3
  z26 := Tryz.sizeOf3
  v26 := Tryz.zeroValue3
  t28 := Tryz.underlying277
  a28 := Tryz.isAgg277
  z28 := Tryz.sizeOf277
  v28 := Tryz.zeroValue277
  i26 := by kernel_rfl
def Tryz.sortA_ren : Go.Shelf.Ren := ⟨fun | 5 => 215 | 8 => 231 | 7 => 254 | 19 => 268 | 20 => 269 | 10 => 284 | 11 => 285 | 12 => 286 | 13 => 287 | 14 => 288 | 15 => 289 | 16 => 290 | 17 => 291 | 18 => 292 | 30 => 304 | 31 => 297 | 32 => 298 | 33 => 305 | 34 => 306 | 35 => 234 | 40 => 310 | n => n, fun | 23 => 72 | 25 => 3 | 3 => 3 | 32 => 184 | 22 => 72 | 0 => 0 | 44 => 390 | 46 => 247 | 4 => 4 | 36 => 384 | 35 => 383 | 41 => 252 | 5 => 5 | 9 => 9 | 53 => 410 | 57 => 414 | 63 => 420 | 64 => 421 | n => n, fun | n => n⟩
theorem Tryz.sortA : Go.Proofs.SlLaysM.n5 Tryz.prog Tryz.sortA_ren where
  mixed := by kernel_rfl
  f5 := ⟨"slices.Sort[[]int,int]", by decide, Tryz.func215.trans (congrArg some (by kernel_rfl))⟩
  f7 := ⟨"slices.pdqsortOrdered[int]", by decide, Tryz.func254.trans (congrArg some (by kernel_rfl))⟩
  f8 := Tryz.func231.trans (congrArg some (by kernel_rfl))
  f10 := ⟨"slices.insertionSortOrdered[int]", by decide, Tryz.func284.trans (congrArg some (by kernel_rfl))⟩
  f11 := ⟨"slices.heapSortOrdered[int]", by decide, Tryz.func285.trans (congrArg some (by kernel_rfl))⟩
  f12 := ⟨"slices.breakPatternsOrdered[int]", by decide, Tryz.func286.trans (congrArg some (by kernel_rfl))⟩
  f13 := ⟨"slices.choosePivotOrdered[int]", by decide, Tryz.func287.trans (congrArg some (by kernel_rfl))⟩
  f14 := ⟨"slices.reverseRangeOrdered[int]", by decide, Tryz.func288.trans (congrArg some (by kernel_rfl))⟩
  f15 := ⟨"slices.partialInsertionSortOrdered[int]", by decide, Tryz.func289.trans (congrArg some (by kernel_rfl))⟩
  f16 := ⟨"cmp.Less[int]", by decide, Tryz.func290.trans (congrArg some (by kernel_rfl))⟩
  f17 := ⟨"slices.partitionEqualOrdered[int]", by decide, Tryz.func291.trans (congrArg some (by kernel_rfl))⟩
  f18 := ⟨"slices.partitionOrdered[int]", by decide, Tryz.func292.trans (congrArg some (by kernel_rfl))⟩
  f19 := Tryz.func268.trans (congrArg some (by kernel_rfl))
  f20 := Tryz.func269.trans (congrArg some (by kernel_rfl))
  f30 := ⟨"slices.siftDownOrdered[int]", by decide, Tryz.func304.trans (congrArg some (by kernel_rfl))⟩
  f31 := Tryz.func297.trans (congrArg some (by kernel_rfl))
  f32 := Tryz.func298.trans (congrArg some (by kernel_rfl))
  f33 := ⟨"slices.medianAdjacentOrdered[int]", by decide, Tryz.func305.trans (congrArg some (by kernel_rfl))⟩
  f34 := ⟨"slices.medianOrdered[int]", by decide, Tryz.func306.trans (congrArg some (by kernel_rfl))⟩
  f35 := ⟨"cmp.isNaN[int]", by decide, Tryz.func234.trans (congrArg some (by kernel_rfl))⟩
  f40 := ⟨"slices.order2Ordered[int]", by decide, Tryz.func310.trans (congrArg some (by kernel_rfl))⟩
  t0 := Tryz.underlying0
  a0 := Tryz.isAgg0
  z0 := Tryz.sizeOf0
  v0 := Tryz.zeroValue0
  t3 := Tryz.underlying3
  a3 := Tryz.isAgg3
  z3 := Tryz.sizeOf3
  v3 := Tryz.zeroValue3
  t4 := Tryz.underlying4
  a4 := Tryz.isAgg4
  z4 := Tryz.sizeOf4
  v4 := Tryz.zeroValue4
  t5 := Tryz.underlying5
  a5 := Tryz.isAgg5
  z5 := Tryz.sizeOf5
  v5 := Tryz.zeroValue5
  t9 := Tryz.underlying9
  a9 := Tryz.isAgg9
  z9 := Tryz.sizeOf9
  v9 := Tryz.zeroValue9
  t22 := Tryz.underlying72
  a22 := Tryz.isAgg72
  z22 := Tryz.sizeOf72
  v22 := Tryz.zeroValue72
  t23 := Tryz.underlying72
  a23 := Tryz.isAgg72
  z23 := Tryz.sizeOf72
  v23 := Tryz.zeroValue72
  t25 := Tryz.underlying3
  a25 := Tryz.isAgg3
  z25 := Tryz.sizeOf3
  v25 := Tryz.zeroValue3
  t32 := Tryz.underlying184
  a32 := Tryz.isAgg184
  z32 := Tryz.sizeOf184
  v32 := Tryz.zeroValue184
  t35 := Tryz.underlying383
  a35 := Tryz.isAgg383
  z35 := Tryz.sizeOf383
  v35 := Tryz.zeroValue383
  t36 := Tryz.underlying384
  a36 := Tryz.isAgg384
  z36 := Tryz.sizeOf384
  v36 := Tryz.zeroValue384
  t41 := Tryz.underlying252
  a41 := Tryz.isAgg252
  z41 := Tryz.sizeOf252
  v41 := Tryz.zeroValue252
  t44 := Tryz.underlying390
  a44 := Tryz.isAgg390
  z44 := Tryz.sizeOf390
  v44 := Tryz.zeroValue390
  t46 := Tryz.underlying247
  a46 := Tryz.isAgg247
  z46 := Tryz.sizeOf247
  v46 := Tryz.zeroValue247
  t53 := Tryz.underlying410
  a53 := Tryz.isAgg410
  z53 := Tryz.sizeOf410
  v53 := Tryz.zeroValue410
  t57 := Tryz.underlying414
  a57 := Tryz.isAgg414
  z57 := Tryz.sizeOf414
  v57 := Tryz.zeroValue414
  t63 := Tryz.underlying420
  a63 := Tryz.isAgg420
  z63 := Tryz.sizeOf420
  v63 := Tryz.zeroValue420
  t64 := Tryz.underlying421
  a64 := Tryz.isAgg421
  z64 := Tryz.sizeOf421
  v64 := Tryz.zeroValue421
end Go.Proofs.YtfojoloiahhphaaGreatDoor
