import Derived.Test.YtfojoloiahhphaaGreatDoorSimX2
/- Sim, part 32: operations that do not look at the memory; which readers must be asked again. -/
namespace Sim
open Go

/- bare operations -/
noncomputable def COp.bare : COp → Bool
  | .mov _ | .pick .. | .nil _ | .un .. | .s2ap .. | .iface .. | .func .. | .sliceStr .. | .sliceSl .. | .slice3 .. | .sliceArr .. | .fieldAddr .. | .field .. => true
  | .idxArr .. | .idxSl .. | .idxStr .. | .idxAgg .. | .extract .. | .minmax .. | .bin .. | .build .. => true
  | .conv c _ => (match c with | .toInt _ | .same => true | _ => false)
  | .len k _ => (match k with | .map => false | _ => true)
  | _ => false
structure Same (x y : OR) : Prop where
  eq : ∀ v s, x = .ok v s → ∃ s', y = .ok v s'
section
variable {st st' : St}
theorem Same.bad {y : OR} : Same .bad y := ⟨fun _ _ h => by cases h⟩
theorem Same.ok (v : CV) : Same (.ok v st) (.ok v st') := ⟨fun _ _ h => by cases h; exact ⟨_, rfl⟩⟩
theorem Same.bsel {b : Bool} {x y x' y' : OR} (hx : Same x x') (hy : Same y y') : Same (bsel b x y) (bsel b x' y') := by cases b; exact hy; exact hx
theorem Same.opt {α : Type} {x : Option α} {n n' : OR} {f f' : α → OR} (hn : Same n n') (h : ∀ v, Same (f v) (f' v)) : Same (Option.rec (motive := fun _ => OR) n f x) (Option.rec (motive := fun _ => OR) n' f' x) := by cases x; exact hn; exact h _
theorem Same.forceN {n : Nat} {f f' : Nat → OR} (h : ∀ v, Same (f v) (f' v)) : Same (Sim.forceN n f) (Sim.forceN n f') := by rw [forceN_eq, forceN_eq]; exact h _
theorem Same.forceZ {n : Int} {f f' : Int → OR} (h : ∀ v, Same (f v) (f' v)) : Same (Sim.forceZ n f) (Sim.forceZ n f') := by rw [forceZ_eq, forceZ_eq]; exact h _
theorem Same.okZ {k : IntKind} {n : Int} : Same (Sim.okZ k st n) (Sim.okZ k st' n) := Same.ok _
theorem Same.okN {k : IntKind} {n : Nat} : Same (Sim.okN k st n) (Sim.okN k st' n) := Same.ok _
theorem Same.forceG {s : Segs CV} {f f' : Segs CV → OR} (h : ∀ v, Same (f v) (f' v)) : Same (Segs.force s f) (Segs.force s f') := by rw [Segs.force_eq, Segs.force_eq]; exact h _
theorem Same.okB {b : Bool} : Same (Sim.okB b st) (Sim.okB b st') := by rw [okB_eq, okB_eq]; exact Same.ok _
end
theorem runOp_bare {call : CallF} {op : COp} {fr : Fr} {st st' : St} (h : op.bare = true) : Same (runOp call op fr st) (runOp call op fr st') := by
  cases op <;> first | (cases h; done) | skip
  all_goals
    simp only [runOp]
    first
      | exact Same.ok _
      | (first | unfold pPick | unfold pNil | unfold pUn | unfold pConv | unfold pS2ap | unfold pIface | unfold pFunc | unfold pSliceStr | unfold pSliceSl | unfold pSlice3
               | unfold pSliceArr | unfold pFieldAddr | unfold pField | unfold pIdxArr | unfold pIdxSl | unfold pIdxStr | unfold pIdxAgg | unfold pExtract | unfold pLen | unfold pMM | unfold pBin | unfold pBuild)
  all_goals repeat' first
    | exact Same.ok _
    | exact Same.bad
    | exact Same.okB
    | exact Same.okZ
    | exact Same.okN
    | (cases h; done)
    | apply Same.bsel
    | apply Same.opt
    | apply Same.forceN
    | apply Same.forceZ
    | apply Same.forceG
    | (intro _)
    | (split <;> try dsimp only)
    | (unfold pInt)
    | (unfold pInt2)
    | (unfold pStr)
    | (unfold pEq)
    | (unfold pBits)
    | (unfold pCapLess)
end Sim
