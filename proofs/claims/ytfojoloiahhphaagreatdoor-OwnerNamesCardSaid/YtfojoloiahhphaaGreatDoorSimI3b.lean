import Derived.Test.YtfojoloiahhphaaGreatDoorSimI3
/- Sim, part 42c: maps.Copy: the walk. -/
namespace Sim
open Go

section
variable {P : Program} {ops : Array Oper} {Q : Exit → Act → World → Prop}
theorem stepV {rest : List Oper} {o : Oper} {a : Act} {w w' : World} {v : Value} (hg : o.guard = none) (hr : (execOp a.eval o).run P w = .ok (.value v) w') (h : wpList P ops Q rest (a.put o.dst v) w') : wpList P ops Q (o :: rest) a w :=
  wpList_plain hg fun K hK => by unfold Oper.wp; rw [hr]; exact hK _ _ h
theorem stepU {rest : List Oper} {o : Oper} {a : Act} {w w' : World} (hg : o.guard = none) (hr : (execOp a.eval o).run P w = .ok .skip w') (h : wpList P ops Q rest (a.put o.dst undef) w') : wpList P ops Q (o :: rest) a w :=
  wpList_plain hg fun K hK => by unfold Oper.wp; rw [hr]; exact hK _ _ h
end
section
variable {P : Program} {a : Act} {w : World} {o : Oper}
theorem run_move {x : Operand} (ho : o.op = .move x) : (execOp a.eval o).run P w = .ok (.value (a.eval x)) w := by unfold execOp; rw [ho]; rfl
theorem run_assign {x : Operand} (ho : o.op = .assign x) : (execOp a.eval o).run P w = .ok (.value (a.eval x)) w := by unfold execOp; rw [ho]; rfl
theorem run_extract {x : Operand} {i : Nat} {vs : Array Value} {v : Value} (ho : o.op = .extract x i) (hx : a.eval x = .tuple vs) (hv : vs[i]? = some v) : (execOp a.eval o).run P w = .ok (.value v) w := by
  unfold execOp; rw [ho]
  dsimp only
  rw [hx]
  simp [Instr.extract, hv]
theorem run_next {x : Operand} {v : Value} {w' : World} (ho : o.op = .next x false) (h : (Instr.next (a.eval x) false o.type).run P w = .ok v w') : (execOp a.eval o).run P w = .ok (.value v) w' := by
  unfold execOp; rw [ho]; simp [h]
theorem run_entry {x : Operand} {v : Value} {w' : World} (ho : o.op = .entry x) (h : (Instr.entry (a.eval x)).run P w = .ok v w') : (execOp a.eval o).run P w = .ok (.value v) w' := by
  unfold execOp; rw [ho]; simp [h]
theorem run_range {t : TypeId} {x : Operand} {v : Value} {w' : World} (ho : o.op = .range t x) (h : (Instr.range t (a.eval x)).run P w = .ok v w') : (execOp a.eval o).run P w = .ok (.value v) w' := by
  unfold execOp; rw [ho]; simp [h]
theorem run_update {t : TypeId} {m k x : Operand} {w' : World} (ho : o.op = .mapUpdate t m k x) (h : (Instr.mapUpdate t (a.eval m) (a.eval k) (a.eval x)).run P w = .ok () w') : (execOp a.eval o).run P w = .ok .skip w' := by
  unfold execOp; rw [ho]; simp [h]
theorem run_alloc' {t : TypeId} {i : TypeInfo} {z : Value} (ho : o.op = .alloc t) (hi : P.info? t = some i) (hz : i.zero = some z) :
    (execOp a.eval o).run P w = .ok (.value (.pointer (some ⟨w.heap.size, 0, none⟩))) { w with heap := w.heap.push (.cells z.cells t) } := by
  unfold execOp; rw [ho]
  simp [Instr.alloc, zeroValue, typeInfo, hi, hz, newVar]
  rfl
theorem run_store' {t : TypeId} {p x : Operand} {r n : Nat} {c l : Array Value} {ty : TypeId} (ho : o.op = .store t p x) (hp : a.eval p = .pointer (some ⟨r, 0, none⟩)) (hx : a.eval x = .agg l) (hn : (Go.sizeOf t).run P w = .ok n w) (hl : l.size = n)
    (hr : w.heap[r]? = some (.cells c ty (0, 0))) (hc : c.size = n) (h1 : ∀ v ∈ l.toList, v.oneCell' = true) :
    (execOp a.eval o).run P w = .ok .skip (w.setRow r l) := by
  unfold execOp; rw [ho]
  have h := run_storeCells_row P r 0 ty 0 0 l.toList 0 c w hr (by omega) (by simp; omega) h1
  have e : (c.toList.take (0 + 0) ++ l.toList ++ c.toList.drop (0 + 0 + l.toList.length)).toArray = l := by
    rw [Nat.add_zero, List.take_zero, List.nil_append, List.drop_of_length_le (by simp; omega), List.append_nil]
  rw [e] at h
  have hc2 : (Value.agg l).cells = l := rfl
  simp [hp, hx, Instr.storeAt, Instr.sureAddr, storeVar, hn, hc2, hl, h]
theorem run_load' {t : TypeId} {p : Operand} {r n : Nat} {l : Array Value} {ty : TypeId} (ho : o.op = .load t p) (hp : a.eval p = .pointer (some ⟨r, 0, none⟩)) (hn : (Go.sizeOf t).run P w = .ok n w) (hl : l.size = n) (ht : (isAgg t).run P w = .ok true w)
    (hr : w.heap[r]? = some (.cells l ty (0, 0))) : (execOp a.eval o).run P w = .ok (.value (.agg l)) w := by
  unfold execOp; rw [ho]
  have h := run_loadCells_row P w r 0 n l ty (0, 0) hr (by omega)
  have e : ((l.toList.drop 0).take n).toArray = l := by
    rw [List.drop_zero, List.take_of_length_le (by simp; omega)]
  rw [e] at h
  simp [hp, Instr.loadAt, Instr.sureAddr, loadVar, ht, hn, h]
end
end Sim
