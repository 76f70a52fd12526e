import Derived.Test.YtfojoloiahhphaaGreatDoorSimComp
/- Sim, part 19: every compiled operation does what the model's does. -/
namespace Sim
open Go

section
variable {P : Program} {ρ : Ren} {st st' : St} {w : World} {v : CV} {fr : Fr} {a : Act} {call : CallF}

theorem run_callFunc {f : FuncId} (args : Array Value) (h : callable P f = true) : (callFunc f args).run P w = .ok (.enter f args) w := by
  unfold callable at h
  split at h
  · rename_i fn hfn
    simp only [Bool.and_eq_true, Bool.not_eq_true'] at h
    have h1 : ¬ (fn.name == "runtime.NumGoroutine") = true := by rw [h.1]; simp
    have h2 : ¬ fn.body.isNone = true := by
      have := h.2
      cases hb : fn.body <;> simp_all
    simp only [callFunc, Sem.run_bind, run_program, Result.andThen_ok, hfn]
    rw [if_neg h1, if_neg h2]
    rfl
  · cases h

theorem run_callv {f : FuncId} {first captured : Array Value} {x : Operand} {args : Array Operand} {ats : Array TypeId} {dst : Option Tmp} {ty : TypeId} {pos : String} {after : Array Edge} {guard : Option (Nat × Bool)}
    (hx : a.eval x = .func (.func f) first captured) :
    (execOp a.eval { dst, op := .call { callee := .value x, args, argTypes := ats }, type := ty, pos, after, guard }).run P w = (callFunc f (first ++ args.map a.eval ++ captured)).run P w := by
  have e : execOp a.eval { dst, op := .call { callee := .value x, args, argTypes := ats }, type := ty, pos, after, guard } =
      (do let d ← Deferred.ofValue (a.eval x) (args.map a.eval); invoke d.target d.args) := rfl
  rw [e, hx]
  simp only [Deferred.ofValue, Sem.run_bind, Sem.run_pure, Result.andThen_ok, invoke]

theorem callwp {o : Oper} {next : Act → World → Prop} {Q : Exit → Act → World → Prop} {f : FuncId} {args : List CV} {args' : Array Value} (hc : CallSound P call) (hr : call f args st = .ok v st') (hw : WR ρ st w) (ha : VRs ρ args args'.toList)
    (hrun : (execOp a.eval o).run P w = (callFunc f args').run P w) (hn : ∀ v' w' ρ', VR ρ' v v' → After ρ st w ρ' st' w' → next (a.put o.dst v') w') : o.wp P a w next Q := by
  rcases hc f args st v st' hr with ⟨h1, h2⟩ | ⟨h1, h2⟩
  · unfold Oper.wp
    rw [hrun, run_callFunc _ h1, Oper.upon_enter]
    refine (h2 ρ w args' hw ha).mono ?_
    rintro e w' ⟨v', ρ', rfl, hv, hA⟩
    exact hn v' w' ρ' hv hA
  · subst h1
    obtain ⟨v', h3, h4⟩ := h2 ρ w args' hw ha
    unfold Oper.wp
    rw [hrun, h3, Oper.upon_value]
    exact hn v' w ρ h4 (After.refl hw)

theorem callv_inv {f : CV} {args : List CV} (hr : pCallv call f args st = .ok v st') {f' : Value} (hf : VR ρ f f') {args' : List Value} (ha : VRs ρ args args') :
    ∃ g first captured, f' = .func (.func g) first captured ∧ ∃ l, call g l st = .ok v st' ∧ VRs ρ l (first ++ args'.toArray ++ captured).toList := by
  unfold pCallv at hr
  split at hr
  · rename_i g fi ca
    cases hf with
    | func _ _ _ f' c' hf hc h1 h2 =>
      refine ⟨g, f'.toArray, c'.toArray, rfl, _, hr, ?_⟩
      have := (VRs.mk (ρ := ρ) hf h1).app (ha.app (VRs.mk (ρ := ρ) hc h2))
      simpa using this
  · cases hr

theorem compOp_sound (hc : CallSound P call) {o : Oper} {op : COp} (h : compOp P o.op = some op) (hr : runOp call op fr st = .ok v st') (hw : WR ρ st w) (hf : FR ρ fr a.tmps) {next : Act → World → Prop} {Q : Exit → Act → World → Prop}
    (hn : ∀ v' w' ρ', VR ρ' v v' → After ρ st w ρ' st' w' → next (a.put o.dst v') w') : o.wp P a w next Q := by
  obtain ⟨dst, oop, ty, pos, after, guard⟩ := o
  have fin : ∀ {s : Sem Next}, s = execOp a.eval ⟨dst, oop, ty, pos, after, guard⟩ → Does P s ρ st w v st' → Oper.wp P ⟨dst, oop, ty, pos, after, guard⟩ a w next Q := fun e hd => opwp_of_does (e ▸ hd) hn
  dsimp only at h
  unfold compOp at h
  split at h
  · rename_i x
    split at h
    · rename_i x' hx; cases h; cases hr
      exact fin rfl ⟨.value (a.eval x), a.eval x, w, ρ, rfl, .inl rfl, ev_sound hx hf, After.refl hw⟩
    · cases h
  · rename_i x
    split at h
    · rename_i x' hx; cases h; cases hr
      exact fin rfl ⟨.value (a.eval x), a.eval x, w, ρ, rfl, .inl rfl, ev_sound hx hf, After.refl hw⟩
    · cases h
  · split at h
    · rename_i h1 h2 h3; cases h
      exact fin rfl (pPick_sound hr hw (ev_sound h1 hf) (ev_sound h2 hf) (ev_sound h3 hf))
    · cases h
  · split at h
    · rename_i i hi
      split at h
      · rename_i z hz; cases h
        obtain ⟨z', z1, z2, z3⟩ := zrow_some hz
        exact fin rfl (pAlloc_sound hr hw hi z1 z3).does
      · cases h
    · cases h
  · split at h
    · rename_i hx; cases h
      exact fin rfl (pBox_sound hr hw (ev_sound hx hf)).does
    · cases h
  · split at h
    · rename_i fs i hu hi
      split at h
      · rename_i z ps hz hp hall; cases h
        obtain ⟨z', z1, z2, z3⟩ := zrow_some hz
        have hpp := cParts_sound hp hf
        refine fin rfl (pBuild_struct hr hw hu hi z1 z3 (by rw [Array.toList_map]; exact hpp) (fun f hfm => ?_)).does
        have := List.all_eq_true.1 hall f hfm
        exact Option.isSome_iff_exists.1 this
      · cases h
    · rename_i n e i hu hi
      split at h
      · rename_i j hj
        split at h
        · rename_i z ps hz hp; cases h
          obtain ⟨z', z1, z2, z3⟩ := zrow_some hz
          have hpp := cParts_sound hp hf
          exact fin rfl (pBuild_array hr hw hu hi z1 z3 hj (by rw [Array.toList_map]; exact hpp)).does
        · cases h
      · cases h
    · cases h
  · split at h
    · rename_i e hu
      split at h
      · rename_i i hi
        simp only [bsel_eq, Nat.ble_eq] at h
        split at h
        · rename_i hle
          split at h
          · rename_i z ps hz hp; cases h
            obtain ⟨z', z1, z2, z3⟩ := zrow_some hz
            have hpp := cParts_sound hp hf
            exact fin rfl (pBuildSlice_sound hr hw hu hi z1 z2 z3 (by rw [Array.toList_map]; exact hpp) hle).does
          · cases h
        · cases h
      · cases h
    · cases h
  · split at h
    · rename_i u i x' hu hi hx
      rw [bsel_eq] at h
      split at h
      · rename_i ha; cases h
        exact fin rfl (pLoadN_sound hr hw (ev_sound hx hf) (by rw [isAgg_run hu, ha]) (sizeOf_run hi)).does
      · rename_i ha; cases h
        exact fin rfl (pLoad1_sound hr hw (ev_sound hx hf) (by rw [isAgg_run hu, show aggOf u = false by simpa using ha])).does
    · cases h
  · split at h
    · rename_i i x' y' hi hx hy; cases h
      exact fin rfl (pStore_sound hr hw (ev_sound hx hf) (ev_sound hy hf) (sizeOf_run hi)).does
    · cases h
  · rename_i x
    split at h
    · rename_i x' hx; cases h
      exact opwp_of_does (pNil_sound (o := ⟨dst, .nilCheck x, ty, pos, after, guard⟩) hr hw (ev_sound hx hf) rfl rfl) hn
    · cases h
  · rename_i op2 t x y yt
    split at h
    · rename_i x' y' hx hy; cases h
      refine fin rfl (pBin_sound (X := x) (Y := y) (f := 40) hr hw (ev_sound hx hf) (ev_sound hy hf) (fun e he => (eqFor_some he).1) (by omega) rfl (fun e he => (eqFor_some he).2)).does
    · cases h
  · split at h
    · rename_i x' hx; cases h
      exact fin rfl (pUn_sound hr hw (ev_sound hx hf)).does
    · cases h
  · split at h
    · rename_i c x' hk hx; cases h
      exact fin rfl (pConv_sound hr hw (ev_sound hx hf) (convKind_some hk)).does
    · cases h
  · split at h
    · rename_i hu hx; cases h
      exact fin rfl (pS2ap_sound hr hw (ev_sound hx hf) hu).does
    · cases h
  · split at h
    · rename_i hk hx; cases h
      exact fin rfl (pIface_sound hr hw (ev_sound hx hf) hk).does
    · cases h
  · split at h
    · rename_i h1 h2; cases h
      exact fin rfl (pFunc_sound hr hw (by rw [Array.toList_map]; exact cArgs_sound h1 hf) (by rw [Array.toList_map]; exact cArgs_sound h2 hf)).does
    · cases h
  · split at h
    · rename_i hu h1; cases h
      exact fin rfl (pMkMap_sound hr hw (cOpt_sound h1 hf) hu).does
    · cases h
  · split at h
    · rename_i e l' c' hu h1 h2
      split at h
      · rename_i i hi
        split at h
        · rename_i z hz; cases h
          obtain ⟨z', z1, z2, z3⟩ := zrow_some hz
          exact fin rfl (pMake_sound hr hw (ev_sound h1 hf) (ev_sound h2 hf) hu hi z1 rfl z2 z3).does
        · cases h
      · cases h
    · cases h
  · rename_i t x lo hi mx
    split at h
    · rename_i x' lo' hi' hu hx hlo hhi hmx; cases h
      have hm := cOpt_sound (ρ := ρ) hmx hf
      cases mx with
      | some m => exact False.elim hm
      | none => exact fin rfl (pSliceStr_sound hr hw (ev_sound hx hf) (cOpt_sound hlo hf) (cOpt_sound hhi hf) hu).does
    · rename_i e x' lo' hi' hu hx hlo hhi hmx
      have hm := cOpt_sound (ρ := ρ) hmx hf
      cases mx with
      | some m => exact False.elim hm
      | none =>
        split at h
        · rename_i i hi2; cases h
          exact fin rfl (pSliceSl_sound hr hw (ev_sound hx hf) (cOpt_sound hlo hf) (cOpt_sound hhi hf) hu (sizeOf_run hi2)).does
        · cases h
    · rename_i e x' lo' hi' mx' hu hx hlo hhi hmx
      have hm := cOpt_sound (ρ := ρ) hmx hf
      have hh := cOpt_sound (ρ := ρ) hhi hf
      cases mx with
      | none => exact False.elim hm
      | some m =>
        cases hi with
        | none => exact False.elim hh
        | some h2 =>
          split at h
          · rename_i i hi2; cases h
            exact fin rfl (pSlice3_sound hr hw (ev_sound hx hf) (cOpt_sound hlo hf) hh hm hu (sizeOf_run hi2)).does
          · cases h
    · rename_i n e x' lo' hi' hu hx hlo hhi hmx
      have hm := cOpt_sound (ρ := ρ) hmx hf
      cases mx with
      | some m => exact False.elim hm
      | none =>
        split at h
        · rename_i i hi2; cases h
          exact fin rfl (pSliceArr_sound hr hw (ev_sound hx hf) (cOpt_sound hlo hf) (cOpt_sound hhi hf) hu (sizeOf_run hi2)).does
        · cases h
    · cases h
  · split at h
    · rename_i fs x' hu hx
      split at h
      · rename_i fd hfd
        split at h
        · rename_i i hi
          simp only [bsel_eq, Nat.beq_eq] at h
          split at h
          · cases h
          · rename_i hz; cases h
            exact fin rfl (pFieldAddr_sound hr hw (ev_sound hx hf) hu hfd rfl (sizeOf_run hi) hz).does
        · cases h
      · cases h
    · cases h
  · split at h
    · rename_i fs x' hu hx
      split at h
      · rename_i fd hfd
        split at h
        · rename_i i u hi hut; cases h
          exact fin rfl (pField_sound hr hw (ev_sound hx hf) hu hfd hi hut).does
        · cases h
      · cases h
    · cases h
  · split at h
    · rename_i n e x' i' hu hx hi
      split at h
      · rename_i j hj; cases h
        exact fin rfl (pIdxArr_sound hr hw (ev_sound hx hf) (ev_sound hi hf) hu (sizeOf_run hj)).does
      · cases h
    · rename_i e x' i' hu hx hi
      split at h
      · rename_i j hj; cases h
        exact fin rfl (pIdxSl_sound hr hw (ev_sound hx hf) (ev_sound hi hf) hu (sizeOf_run hj)).does
      · cases h
    · cases h
  · split at h
    · rename_i x' i' hu hx hi; cases h
      exact fin rfl (pIdxStr_sound hr hw (ev_sound hx hf) (ev_sound hi hf) hu).does
    · rename_i n e x' i' hu hx hi
      split at h
      · rename_i j u hj hue; cases h
        exact fin rfl (pIdxAgg_sound hr hw (ev_sound hx hf) (ev_sound hi hf) hu hj hue).does
      · cases h
    · cases h
  · split at h
    · rename_i e d x' k' hk hx hkk
      split at h
      · rename_i i hi
        split at h
        · rename_i z hz; cases h
          obtain ⟨kt, k1, k2, k3⟩ := keyOf_some hk
          obtain ⟨z', z1, z2⟩ := zval_some hz
          exact fin rfl (pLookup_sound hr hw (ev_sound hx hf) (ev_sound hkk hf) k1 k2 (by omega) k3 hi z1 (z2 ρ)).does
        · cases h
      · cases h
    · cases h
  · split at h
    · rename_i e d m' k' x' hk hm hkk hx; cases h
      obtain ⟨kt, k1, k2, k3⟩ := keyOf_some hk
      exact fin rfl (pMapUpdate_sound hr hw (ev_sound hm hf) (ev_sound hkk hf) (ev_sound hx hf) k1 k2 (by omega) k3).does
    · cases h
  · split at h
    · rename_i e d m' k' x' hk hm hkk hx; cases h
      obtain ⟨kt, k1, k2, k3⟩ := keyOf_some hk
      exact fin rfl (pMapUpdate_sound hr hw (ev_sound hm hf) (ev_sound hkk hf) (ev_sound hx hf) k1 k2 (by omega) k3).does
    · cases h
  · split at h
    · rename_i e d m' k' hk hm hkk
      split at h
      · rename_i i hi
        split at h
        · rename_i z hz; cases h
          obtain ⟨kt, k1, k2, k3⟩ := keyOf_some hk
          obtain ⟨z', z1, z2⟩ := zval_some hz
          exact fin rfl (pMapEntry_sound hr hw (ev_sound hm hf) (ev_sound hkk hf) k1 k2 (by omega) k3 hi z1 (z2 ρ)).does
        · cases h
      · cases h
    · cases h
  · split at h
    · rename_i m' s' x' hm hs hx; cases h
      exact fin rfl (pEntryStore_sound hr hw (ev_sound hm hf) (ev_sound hs hf) (ev_sound hx hf)).does
    · cases h
  · split at h
    · rename_i x' hx; cases h
      exact fin rfl (pExtract_sound hr hw (ev_sound hx hf)).does
    · cases h
  · exact fin rfl (compBuiltin_sound h hr hw hf)
  · rename_i f args ats
    split at h
    · rename_i l hl; cases h
      refine callwp (o := ⟨dst, .call { callee := .value (.func f), args := args, argTypes := ats }, ty, pos, after, guard⟩) hc hr hw (args' := #[] ++ args.map a.eval ++ #[]) (by simpa using cArgs_sound hl hf) (run_callv rfl) hn
    · cases h
  · rename_i f args ats hnf
    split at h
    · rename_i f' l hf' hl; cases h
      obtain ⟨g, first, captured, e1, l', e2, e3⟩ := callv_inv hr (ev_sound hf' hf) (cArgs_sound hl hf)
      refine callwp (o := ⟨dst, .call { callee := .value f, args := args, argTypes := ats }, ty, pos, after, guard⟩) hc e2 hw (args' := first ++ args.map a.eval ++ captured) (by simpa using e3) (run_callv e1) hn
    · cases h
  · cases h
end
end Sim
