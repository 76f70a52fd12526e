import Derived.Test.YtnahbemmgcjojaaGreatDoorProg
import Derived.WalkKit
import Derived.RegionTactic
import Derived.Deep.RegionWith
import Derived.Lib.Hide
namespace Lim.Cfg
open Go Go.RowKit Go.Proofs
set_option linter.unusedVariables false
def A (n:Nat):Obj:= .cells (Array.replicate (3*n) (.int .i64 0)) 67
def B (n:Nat):Obj:= .cells (Array.replicate n (.bool false)) 4
theorem mkA1 (w:World):(Instr.makeSlice 36 (.int .i64 1) (.int .i64 1)).run Tryz.prog w= .ok (.slice (some ⟨w.heap.size,0,none⟩) 1 1) (w.alloc (A 1)):=by kernel_rfl
theorem mkA2 (w:World):(Instr.makeSlice 36 (.int .i64 2) (.int .i64 2)).run Tryz.prog w= .ok (.slice (some ⟨w.heap.size,0,none⟩) 2 2) (w.alloc (A 2)):=by kernel_rfl
theorem mkA3 (w:World):(Instr.makeSlice 36 (.int .i64 3) (.int .i64 3)).run Tryz.prog w= .ok (.slice (some ⟨w.heap.size,0,none⟩) 3 3) (w.alloc (A 3)):=by kernel_rfl
theorem mkA4 (w:World):(Instr.makeSlice 36 (.int .i64 4) (.int .i64 4)).run Tryz.prog w= .ok (.slice (some ⟨w.heap.size,0,none⟩) 4 4) (w.alloc (A 4)):=by kernel_rfl
theorem mkB1 (w:World):(Instr.makeSlice 44 (.int .i64 1) (.int .i64 1)).run Tryz.prog w= .ok (.slice (some ⟨w.heap.size,0,none⟩) 1 1) (w.alloc (B 1)):=by kernel_rfl
theorem mkB2 (w:World):(Instr.makeSlice 44 (.int .i64 2) (.int .i64 2)).run Tryz.prog w= .ok (.slice (some ⟨w.heap.size,0,none⟩) 2 2) (w.alloc (B 2)):=by kernel_rfl
theorem mkB3 (w:World):(Instr.makeSlice 44 (.int .i64 3) (.int .i64 3)).run Tryz.prog w= .ok (.slice (some ⟨w.heap.size,0,none⟩) 3 3) (w.alloc (B 3)):=by kernel_rfl
theorem mkB4 (w:World):(Instr.makeSlice 44 (.int .i64 4) (.int .i64 4)).run Tryz.prog w= .ok (.slice (some ⟨w.heap.size,0,none⟩) 4 4) (w.alloc (B 4)):=by kernel_rfl
theorem mkB5 (w:World):(Instr.makeSlice 44 (.int .i64 5) (.int .i64 5)).run Tryz.prog w= .ok (.slice (some ⟨w.heap.size,0,none⟩) 5 5) (w.alloc (B 5)):=by kernel_rfl
attribute [local go_sem] mkA1 mkA2 mkA3 mkA4 mkB1 mkB2 mkB3 mkB4 mkB5
def NewPost (s t:Nat)(w:World)(e:Ending)(w':World):Prop:=e= .returned (.tuple #[.pointer (some ⟨w.heap.size+1+1,0,none⟩), .int .i64 0])∧
 (w'=(((w.alloc (A s)).alloc (B t)).alloc (.cells #[.slice (some ⟨w.heap.size,0,none⟩) s s, .slice (some ⟨w.heap.size+1,0,none⟩) t t] 115)).drew∨
  w'=(((w.alloc (B t)).alloc (A s)).alloc (.cells #[.slice (some ⟨w.heap.size+1,0,none⟩) s s, .slice (some ⟨w.heap.size,0,none⟩) t t] 115)).drew)
set_option maxRecDepth 100000 in
set_option maxHeartbeats 4000000 in
theorem new (s t:Nat)(hs:1≤s∧s≤4)(ht:1≤t∧t≤5)(w:World):Calls Tryz.prog 118 #[.int .i64 s, .int .i64 t] w (NewPost s t w):=by
 have h1:s=1∨s=2∨s=3∨s=4:=by omega
 have h2:t=1∨t=2∨t=3∨t=4∨t=5:=by omega
 clear hs ht;rcases h1 with rfl|rfl|rfl|rfl<;>rcases h2 with rfl|rfl|rfl|rfl|rfl
 all_goals go_enter Tryz.func118,Tryz.ntmps118
 all_goals go_wp2
 all_goals go_region
 all_goals go_wp2
 all_goals refine bodyPost_ret (results_tmp2 rfl _ _ _) rfl ?_
 all_goals first|exact⟨rfl, .inl rfl⟩|exact⟨rfl, .inr rfl⟩
end Lim.Cfg
