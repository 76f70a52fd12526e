import Derived.Test.YtpinmfjiiapgfaaGreatDoorProg
import Derived.WalkKit
import Derived.RegionTactic
import Derived.Deep.RegionWith
import Derived.Lib.Hide
import Derived.Test.YtpinmfjiiapgfaaGreatDoorSimE
/- config.New at one shard: two rows and their box, in either order. -/
namespace Sim.Cfg
open Go Go.RowKit Go.Proofs
set_option linter.unusedVariables false
def A : Obj := .cells #[.int .i64 0, .int .i64 0, .int .i64 0] 128
def B (n : Nat) : Obj := .cells (Array.replicate n (.bool false)) 4
theorem mkA (w : World) : (Instr.makeSlice 125 (.int .i64 1) (.int .i64 1)).run Tryz.prog w = .ok (.slice (some ⟨w.heap.size, 0, none⟩) 1 1) (w.alloc A) := by kernel_rfl
theorem mkB1 (w : World) : (Instr.makeSlice 100 (.int .i64 1) (.int .i64 1)).run Tryz.prog w = .ok (.slice (some ⟨w.heap.size, 0, none⟩) 1 1) (w.alloc (B 1)) := by kernel_rfl
theorem mkB2 (w : World) : (Instr.makeSlice 100 (.int .i64 2) (.int .i64 2)).run Tryz.prog w = .ok (.slice (some ⟨w.heap.size, 0, none⟩) 2 2) (w.alloc (B 2)) := by kernel_rfl
theorem mkB3 (w : World) : (Instr.makeSlice 100 (.int .i64 3) (.int .i64 3)).run Tryz.prog w = .ok (.slice (some ⟨w.heap.size, 0, none⟩) 3 3) (w.alloc (B 3)) := by kernel_rfl
attribute [local go_sem] mkA mkB1 mkB2 mkB3
/-- What New leaves. -/
def NewPost (t : Nat) (w : World) (e : Ending) (w' : World) : Prop := e = .returned (.tuple #[.pointer (some ⟨w.heap.size + 1 + 1, 0, none⟩), .int .i64 0]) ∧
  (w' = (((w.alloc A).alloc (B t)).alloc (.cells #[.slice (some ⟨w.heap.size, 0, none⟩) 1 1, .slice (some ⟨w.heap.size + 1, 0, none⟩) t t] 203)).drew ∨
    w' = (((w.alloc (B t)).alloc A).alloc (.cells #[.slice (some ⟨w.heap.size + 1, 0, none⟩) 1 1, .slice (some ⟨w.heap.size, 0, none⟩) t t] 203)).drew)
set_option maxRecDepth 100000 in
set_option maxHeartbeats 2000000 in
theorem new1 (w : World) : Calls Tryz.prog 125 #[.int .i64 1, .int .i64 1] w (NewPost 1 w) := by
  go_enter Tryz.func125, Tryz.ntmps125
  go_wp2
  go_region
  all_goals go_wp2
  all_goals refine bodyPost_ret (results_tmp2 rfl _ _ _) rfl ?_
  all_goals first | exact ⟨rfl, .inl rfl⟩ | exact ⟨rfl, .inr rfl⟩
set_option maxRecDepth 100000 in
set_option maxHeartbeats 2000000 in
theorem new2 (w : World) : Calls Tryz.prog 125 #[.int .i64 1, .int .i64 2] w (NewPost 2 w) := by
  go_enter Tryz.func125, Tryz.ntmps125
  go_wp2
  go_region
  all_goals go_wp2
  all_goals refine bodyPost_ret (results_tmp2 rfl _ _ _) rfl ?_
  all_goals first | exact ⟨rfl, .inl rfl⟩ | exact ⟨rfl, .inr rfl⟩
set_option maxRecDepth 100000 in
set_option maxHeartbeats 2000000 in
theorem new3 (w : World) : Calls Tryz.prog 125 #[.int .i64 1, .int .i64 3] w (NewPost 3 w) := by
  go_enter Tryz.func125, Tryz.ntmps125
  go_wp2
  go_region
  all_goals go_wp2
  all_goals refine bodyPost_ret (results_tmp2 rfl _ _ _) rfl ?_
  all_goals first | exact ⟨rfl, .inl rfl⟩ | exact ⟨rfl, .inr rfl⟩
end Sim.Cfg

/- config.New at one shard, as an intrinsic. -/
namespace Sim
open Go Go.Proofs
set_option linter.unusedVariables false
section
variable {ρ : Ren} {st : St} {w : World}
theorem next_none' (h : WR ρ st w) : ρ st.next = none := by
  cases hh : ρ st.next with
  | none => rfl
  | some x => have := h.fresh _ x hh; omega
theorem succ_none (h : WR ρ st w) : ρ st.next.succ = none := by
  cases hh : ρ st.next.succ with
  | none => rfl
  | some x => have := h.fresh _ x hh; rw [Bp.dec_succ] at this; omega
theorem succ_ne (b : Bp) : b.succ ≠ b := fun e => by have := Bp.dec_succ b; rw [e] at this; omega
/-- Two new rows: in the one order. -/
theorem two_new1 (hw : WR ρ st w) {sA sB : Segs CV} {tA tB : TypeId} {lA lB : List Value} (hA : ∀ ρ', VRs ρ' (row sA) lA) (hB : ∀ ρ', VRs ρ' (row sB) lB) :
    ∃ ρ', After ρ st w ρ' ((st.new (.cells sA tA false)).new (.cells sB tB false)) ((w.alloc (.cells lA.toArray tA)).alloc (.cells lB.toArray tB)) ∧
      ρ' st.next = some (w.heap.size, lA.length) ∧ ρ' st.next.succ = some (w.heap.size + 1, lB.length) := by
  have a1 := After.pend hw (.cells sA tA false)
  have a2 := a1.trans (After.pend a1.wr (.cells sB tB false))
  have m1 : ((st.new (.cells sA tA false)).new (.cells sB tB false)).mem.get st.next = some (.cells sA tA false) := by
    show ((st.mem.put st.next _).put st.next.succ _).get st.next = _
    rw [PT.get_put_ne _ _ _ _ (succ_ne _).symm, PT.get_put_same]
  have m2 : ((st.new (.cells sA tA false)).new (.cells sB tB false)).mem.get st.next.succ = some (.cells sB tB false) := by
    show ((st.mem.put st.next _).put st.next.succ _).get st.next.succ = _
    rw [PT.get_put_same]
  have l1 : st.next.dec < ((st.new (.cells sA tA false)).new (.cells sB tB false)).next.dec := by
    show st.next.dec < st.next.succ.succ.dec
    have h1 := Bp.dec_succ st.next; have h2 := Bp.dec_succ st.next.succ; omega
  have l2 : st.next.succ.dec < ((st.new (.cells sA tA false)).new (.cells sB tB false)).next.dec := by
    show st.next.succ.dec < st.next.succ.succ.dec
    have h1 := Bp.dec_succ st.next; have h2 := Bp.dec_succ st.next.succ; omega
  have a3 := After.come a2 m1 (next_none' hw) l1 (hA ρ) (Nat.le_refl _)
  have a4 := After.come a3 m2 (by rw [Ren.set_ne _ _ _ _ (succ_ne _)]; exact succ_none hw) l2 (hB _) (by have := Bp.dec_succ st.next; omega)
  refine ⟨_, a4, ?_, ?_⟩
  · rw [Ren.set_ne _ _ _ _ (succ_ne _).symm, Ren.set_same]
  · rw [Ren.set_same]; simp
/-- In the other one. -/
theorem two_new2 (hw : WR ρ st w) {sA sB : Segs CV} {tA tB : TypeId} {lA lB : List Value} (hA : ∀ ρ', VRs ρ' (row sA) lA) (hB : ∀ ρ', VRs ρ' (row sB) lB) :
    ∃ ρ', After ρ st w ρ' ((st.new (.cells sA tA false)).new (.cells sB tB false)) ((w.alloc (.cells lB.toArray tB)).alloc (.cells lA.toArray tA)) ∧
      ρ' st.next = some (w.heap.size + 1, lA.length) ∧ ρ' st.next.succ = some (w.heap.size, lB.length) := by
  have a1 := After.pend hw (.cells sA tA false)
  have a2 := a1.trans (After.pend a1.wr (.cells sB tB false))
  have m1 : ((st.new (.cells sA tA false)).new (.cells sB tB false)).mem.get st.next = some (.cells sA tA false) := by
    show ((st.mem.put st.next _).put st.next.succ _).get st.next = _
    rw [PT.get_put_ne _ _ _ _ (succ_ne _).symm, PT.get_put_same]
  have m2 : ((st.new (.cells sA tA false)).new (.cells sB tB false)).mem.get st.next.succ = some (.cells sB tB false) := by
    show ((st.mem.put st.next _).put st.next.succ _).get st.next.succ = _
    rw [PT.get_put_same]
  have l1 : st.next.dec < ((st.new (.cells sA tA false)).new (.cells sB tB false)).next.dec := by
    show st.next.dec < st.next.succ.succ.dec
    have h1 := Bp.dec_succ st.next; have h2 := Bp.dec_succ st.next.succ; omega
  have l2 : st.next.succ.dec < ((st.new (.cells sA tA false)).new (.cells sB tB false)).next.dec := by
    show st.next.succ.dec < st.next.succ.succ.dec
    have h1 := Bp.dec_succ st.next; have h2 := Bp.dec_succ st.next.succ; omega
  have a3 := After.come a2 m2 (succ_none hw) l2 (hB ρ) (by have := Bp.dec_succ st.next; omega)
  have a4 := After.come a3 m1 (by rw [Ren.set_ne _ _ _ _ (succ_ne _).symm]; exact next_none' hw) l1 (hA _) (Nat.le_refl _)
  refine ⟨_, a4, ?_, ?_⟩
  · rw [Ren.set_same]; simp
  · rw [Ren.set_ne _ _ _ _ (succ_ne _), Ren.set_same]
end
noncomputable def zA : Segs CV := .one (.int .i64 0) (.one (.int .i64 0) (.one (.int .i64 0) .nil))
noncomputable def zB (n : Nat) : Segs CV := Nat.rec (motive := fun _ => Segs CV) .nil (fun _ s => .one (.bool false) s) n
noncomputable def boxC (a b : Bp) (t : Nat) : Segs CV := .one (.slice a 0 1 1 0) (.one (.slice b 0 t t 0) .nil)
noncomputable def cfgG : FunX := fun _ args st => match args with
  | [.int .i64 (.ofNat s), .int .i64 (.ofNat t)] => bsel (Bool.and (Nat.beq s 1) (Bool.and (Nat.ble 1 t) (Nat.ble t 3)))
      (forceN t fun t => (zB t).force fun z => forceB st.next.succ fun n1 => forceB n1.succ fun n2 => forceB n2.succ fun n3 =>
        .ok (.tuple (.one (.ptr n2 0) (.one (.int .i64 0) .nil))) ⟨((st.mem.put st.next (some (.cells zA 128 false))).put n1 (some (.cells z 4 false))).put n2 (some (.cells (boxC st.next n1 t) 203 false)), n3⟩) .bad
  | _ => .bad
theorem zA_VRs (ρ : Ren) : VRs ρ (row zA) [.int .i64 0, .int .i64 0, .int .i64 0] := VRs.cons (.int _ _) (VRs.cons (.int _ _) (VRs.cons (.int _ _) (VRs.nil _)))
theorem zB_VRs (ρ : Ren) : ∀ n, VRs ρ (row (zB n)) (List.replicate n (.bool false)) := by
  intro n
  induction n with
  | zero => exact VRs.nil _
  | succ n ih => exact VRs.cons (.bool false) ih
theorem cfgG_sound (call : CallF) (args : List CV) (st : St) (v : CV) (st' : St) (h : cfgG call args st = .ok v st') : CallOut Tryz.prog 125 args st v st' := by
  unfold cfgG at h
  split at h
  · rename_i s t
    rw [bsel_eq] at h
    split at h
    · rename_i hh
      rw [Bool.and_eq_true, Bool.and_eq_true, Nat.beq_eq, Nat.ble_eq, Nat.ble_eq] at hh
      obtain ⟨rfl, ht1, ht3⟩ := hh
      simp only [forceN_eq, Segs.force_eq, forceB_eq] at h
      cases h
      refine .inl ⟨by kernel_rfl, fun ρ w args' hw ha => ?_⟩
      obtain ⟨x1, t1, e1, hx1, ha1⟩ := ha.inv
      obtain ⟨x2, t2, e2, hx2, ha2⟩ := ha1.inv
      have e4 : t2 = [] := by have := ha2.len; simpa using this.symm
      subst e4; subst e2
      have e5 : args' = #[x1, x2] := by rw [← Array.toArray_toList (xs := args'), e1]
      subst e5
      cases hx1; cases hx2
      have hcall : Calls Tryz.prog 125 #[.int .i64 1, .int .i64 t] w (Cfg.NewPost t w) := by
        have : t = 1 ∨ t = 2 ∨ t = 3 := by omega
        rcases this with rfl | rfl | rfl
        · exact Cfg.new1 w
        · exact Cfg.new2 w
        · exact Cfg.new3 w
      refine hcall.mono ?_
      have eB : (List.replicate t (Value.bool false)).toArray = Array.replicate t (.bool false) := by simp
      rintro e w' ⟨rfl, hw'⟩
      have fin : ∀ (ρ1 : Ren) (w1 : World) (r1 r2 : Nat), After ρ st w ρ1 ((st.new (.cells zA 128 false)).new (.cells (zB t) 4 false)) w1 → ρ1 st.next = some (r1, 3) → ρ1 st.next.succ = some (r2, t) → w1.heap.size = w.heap.size + 1 + 1 →
          ∃ v' ρ', Ending.returned (.tuple #[.pointer (some ⟨w.heap.size + 1 + 1, 0, none⟩), .int .i64 0]) = .returned v' ∧ VR ρ' (.tuple (.one (.ptr st.next.succ.succ 0) (.one (.int .i64 0) .nil))) v' ∧
            After ρ st w ρ' ⟨((st.mem.put st.next (some (.cells zA 128 false))).put st.next.succ (some (.cells (zB t) 4 false))).put st.next.succ.succ (some (.cells (boxC st.next st.next.succ t) 203 false)), st.next.succ.succ.succ⟩
              (w1.alloc (.cells #[.slice (some ⟨r1, 0, none⟩) 1 1, .slice (some ⟨r2, 0, none⟩) t t] 203)).drew := by
        intro ρ1 w1 r1 r2 hA1 q1 q2 hs
        have hn := next_none' hA1.wr
        have hle : ρ1.le (ρ1.set (st.next.succ.succ) (w1.heap.size, 2)) := fun q x hx => by
          rw [Ren.set_ne _ _ _ _ (fun e => by subst e; have hn' : ρ1 st.next.succ.succ = none := hn; rw [hn'] at hx; cases hx)]; exact hx
        have hv : VRs (ρ1.set (st.next.succ.succ) (w1.heap.size, 2)) (row (boxC st.next st.next.succ t)) [.slice (some ⟨r1, 0, none⟩) 1 1, .slice (some ⟨r2, 0, none⟩) t t] :=
          VRs.cons (.slice _ _ _ _ _ _ (hle _ _ q1)) (VRs.cons (.slice _ _ _ _ _ _ (hle _ _ q2)) (VRs.nil _))
        have hbr := BR.cells (ρ := ρ1.set (st.next.succ.succ) (w1.heap.size, 2)) (boxC st.next st.next.succ t) 203 false #[.slice (some ⟨r1, 0, none⟩) 1 1, .slice (some ⟨r2, 0, none⟩) t t] 0 0 (Nat.le_refl 2) hv (by omega) (by intros; omega)
        have hN := After.new hA1.wr (blk := .cells (boxC st.next st.next.succ t) 203 false) (o := .cells #[.slice (some ⟨r1, 0, none⟩) 1 1, .slice (some ⟨r2, 0, none⟩) t t] 203) (sz := 2) hbr
        have hA2 := hA1.trans hN.1
        have hA3 := hA2.trans (After.draw hA2.wr ((w1.alloc (.cells #[.slice (some ⟨r1, 0, none⟩) 1 1, .slice (some ⟨r2, 0, none⟩) t t] 203)).drew).drawn)
        refine ⟨_, _, rfl, ?_, hA3⟩
        rw [← hs]
        exact VR.tuple' (VRs.two (.ptr _ _ _ _ hN.2) (.int _ _))
      rcases hw' with rfl | rfl
      · obtain ⟨ρ1, hA1, q1, q2⟩ := two_new1 hw (tA := 128) (tB := 4) (fun ρ' => zA_VRs ρ') (fun ρ' => zB_VRs ρ' t)
        rw [eB] at hA1
        rw [List.length_replicate] at q2
        exact fin ρ1 _ _ _ hA1 q1 q2 (by simp)
      · obtain ⟨ρ1, hA1, q1, q2⟩ := two_new2 hw (tA := 128) (tB := 4) (fun ρ' => zA_VRs ρ') (fun ρ' => zB_VRs ρ' t)
        rw [eB] at hA1
        rw [List.length_replicate] at q2
        exact fin ρ1 _ _ _ hA1 q1 q2 (by simp)
    · cases h
  · cases h
end Sim
