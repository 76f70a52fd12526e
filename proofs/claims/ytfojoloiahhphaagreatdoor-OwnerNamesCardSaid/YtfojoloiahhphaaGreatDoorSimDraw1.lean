import Derived.Test.YtfojoloiahhphaaGreatDoorSimExec
/- Sim, part 22: what an operation looks at; which leave the memory; equal values. -/
namespace Sim
open Go

/- equal clean values -/
noncomputable def bpEq (p q : Bp) : Bool := Nat.beq p.dec q.dec
theorem bpEq_iff {p q : Bp} : bpEq p q = true ↔ p = q := by
  unfold bpEq; rw [Nat.beq_eq]; exact ⟨Bp.dec_inj p q, fun h => by rw [h]⟩
noncomputable def boolEq (a b : Bool) : Bool := bsel a b (Bool.not b)
theorem boolEq_iff {a b : Bool} : boolEq a b = true ↔ a = b := by cases a <;> cases b <;> simp [boolEq]
noncomputable def scalE (x y : CV) : Bool :=
  match x, y with
  | .undef, .undef => true
  | .bool a, .bool b => boolEq a b
  | .int j a, .int k b => Bool.and (kbeq j k) (zeq a b)
  | .str n a, .str m b => Bool.and (Nat.beq n m) (Nat.beq a b)
  | .nilptr, .nilptr => true
  | .ptr b o, .ptr c p => Bool.and (bpEq b c) (Nat.beq o p)
  | .nilslice, .nilslice => true
  | .slice b o l c g, .slice b' o' l' c' g' => Bool.and (bpEq b b') (Bool.and (Nat.beq o o') (Bool.and (Nat.beq l l') (Bool.and (Nat.beq c c') (Nat.beq g g'))))
  | .nilmap, .nilmap => true
  | .map b, .map c => bpEq b c
  | .nilfunc, .nilfunc => true
  | .niliface, .niliface => true
  | _, _ => false
theorem scalE_sound {x y : CV} (h : scalE x y = true) : x = y := by
  unfold scalE at h
  split at h <;> (try simp only [Bool.and_eq_true, Nat.beq_eq, boolEq_iff, bpEq_iff, kbeq_iff, zeq_iff] at h)
  all_goals first
    | rfl
    | (cases h; done)
    | (subst h; rfl)
    | (obtain ⟨rfl, rfl⟩ := h; rfl)
    | (obtain ⟨rfl, rfl, rfl, rfl, rfl⟩ := h; rfl)
noncomputable def scalE1 (x y : CV) : Bool := match x, y with | .iface t v, .iface u w => Bool.and (Nat.beq t u) (scalE v w) | x, y => scalE x y
theorem scalE1_sound {x y : CV} (h : scalE1 x y = true) : x = y := by
  unfold scalE1 at h
  split at h
  · simp only [Bool.and_eq_true, Nat.beq_eq] at h
    rw [h.1, scalE_sound h.2]
  · exact scalE_sound h
noncomputable def segE (s : Segs CV) : Segs CV → Bool :=
  Segs.rec (motive := fun _ => Segs CV → Bool) (fun t => match t with | .nil => true | _ => false)
    (fun v _ ih t => match t with | .one u r => Bool.and (scalE1 v u) (ih r) | _ => false)
    (fun n a _ ih t => match t with | .bytes m b r => Bool.and (Bool.and (Nat.beq n m) (Nat.beq a b)) (ih r) | _ => false) s
theorem segE_sound : ∀ {s t : Segs CV}, segE s t = true → s = t := by
  intro s
  induction s with
  | nil => intro t h; cases t <;> first | rfl | (exact absurd h (by simp [segE]))
  | one v r ih =>
    intro t h
    cases t with
    | one u r' =>
      have h : Bool.and (scalE1 v u) (segE r r') = true := h
      simp only [Bool.and_eq_true] at h
      rw [scalE1_sound h.1, ih h.2]
    | nil => exact absurd h (by simp [segE])
    | bytes n a r' => exact absurd h (by simp [segE])
  | bytes n a r ih =>
    intro t h
    cases t with
    | bytes m b r' =>
      have h : Bool.and (Bool.and (Nat.beq n m) (Nat.beq a b)) (segE r r') = true := h
      simp only [Bool.and_eq_true, Nat.beq_eq] at h
      rw [h.1.1, h.1.2, ih h.2]
    | nil => exact absurd h (by simp [segE])
    | one u r' => exact absurd h (by simp [segE])
noncomputable def eqV (x y : CV) : Bool :=
  match x, y with
  | .agg s, .agg t => segE s t
  | .tuple s, .tuple t => segE s t
  | .func (.func f) s c, .func (.func g) s' c' => Bool.and (Nat.beq f g) (Bool.and (segE s s') (segE c c'))
  | x, y => scalE1 x y
theorem eqV_sound {x y : CV} (h : eqV x y = true) : x = y := by
  unfold eqV at h
  split at h
  · rw [segE_sound h]
  · rw [segE_sound h]
  · simp only [Bool.and_eq_true, Nat.beq_eq] at h
    rw [h.1, segE_sound h.2.1, segE_sound h.2.2]
  · exact scalE1_sound h

/- operands -/
def optArg (x : Option CArg) : List CArg := match x with | some x => [x] | none => []
def COp.args : COp → List CArg
  | .mov x | .nil x | .un _ x | .conv _ x | .s2ap _ x | .iface _ x | .fieldAddr _ x | .field _ _ _ x | .extract x _ | .len _ x | .clear _ x | .box _ x | .load1 x | .loadN _ x => [x]
  | .pick c a b => [c, a, b]
  | .new _ _ => []
  | .build _ ps => ps.map (·.2.2)
  | .buildSlice _ _ _ ps => ps.map (·.2.2)
  | .store _ a x | .bin _ _ _ a x | .idxArr _ _ a x | .idxSl _ a x | .idxStr a x | .idxAgg _ _ _ a x | .lookup _ _ _ a x | .mapEntry _ _ a x | .append _ _ _ _ _ a x | .copy _ _ a x | .minmax _ a x | .delete _ a x => [a, x]
  | .func _ f c => f ++ c
  | .mkMap r => optArg r
  | .mkSlice _ _ _ l c => [l, c]
  | .sliceStr x lo hi | .sliceSl _ x lo hi | .sliceArr _ _ x lo hi => x :: (optArg lo ++ optArg hi)
  | .slice3 _ x lo hi mx => x :: hi :: mx :: optArg lo
  | .mapUpdate _ m k x | .entryStore m k x => [m, k, x]
  | .call _ args => args
  | .callv f args => f :: args

theorem evL_congr {fr fr' : Fr} : ∀ {l : List CArg}, (∀ x ∈ l, ev fr x = ev fr' x) → evL fr l = evL fr' l := by
  intro l
  induction l with
  | nil => intro _; rfl
  | cons x l ih =>
    intro h
    show ev fr x :: evL fr l = ev fr' x :: evL fr' l
    rw [h x (by simp), ih fun y hy => h y (by simp [hy])]
theorem evP_congr {fr fr' : Fr} : ∀ {l : List PartA}, (∀ x ∈ l.map (·.2.2), ev fr x = ev fr' x) → evP fr l = evP fr' l := by
  intro l
  induction l with
  | nil => intro _; rfl
  | cons p l ih =>
    intro h
    show (p.1, p.2.1, ev fr p.2.2) :: evP fr l = (p.1, p.2.1, ev fr' p.2.2) :: evP fr' l
    rw [h p.2.2 (by simp), ih fun y hy => h y (by simp at hy ⊢; exact .inr hy)]
theorem evO_congr {fr fr' : Fr} {x : Option CArg} (h : ∀ y ∈ optArg x, ev fr y = ev fr' y) : evO fr x = evO fr' x := by
  cases x with
  | none => rfl
  | some x => show some (ev fr x) = some (ev fr' x); rw [h x (by simp [optArg])]
theorem runOp_congr {call : CallF} {op : COp} {fr fr' : Fr} {st : St} (h : ∀ x ∈ op.args, ev fr x = ev fr' x) : runOp call op fr st = runOp call op fr' st := by
  cases op <;> simp only [COp.args, List.mem_cons, List.mem_append, List.not_mem_nil, or_false, forall_eq_or_imp, forall_eq] at h <;> simp only [runOp]
  all_goals first
    | rfl
    | rw [h]
    | rw [h.1, h.2]
    | rw [h.1, h.2.1, h.2.2]
    | rw [evL_congr h]
    | rw [evP_congr h]
    | rw [evO_congr h]
    | rw [h.1, evL_congr h.2]
    | rw [evL_congr fun x hx => h x (.inl hx), evL_congr fun x hx => h x (.inr hx)]
    | rw [h.1, evO_congr fun x hx => h.2 x (.inl hx), evO_congr fun x hx => h.2 x (.inr hx)]
    | rw [h.1, h.2.1, h.2.2.1, evO_congr h.2.2.2]

/- still operations -/
noncomputable def COp.still : COp → Bool
  | .mov _ | .pick .. | .load1 _ | .loadN .. | .nil _ | .un .. | .s2ap .. | .iface .. | .func .. | .sliceStr .. | .sliceSl .. | .slice3 .. | .sliceArr .. | .fieldAddr .. | .field .. => true
  | .idxArr .. | .idxSl .. | .idxStr .. | .idxAgg .. | .lookup .. | .extract .. | .len .. | .minmax .. | .bin .. | .build .. => true
  | .conv c _ => (match c with | .bytesOf _ => false | _ => true)
  | _ => false
structure Still (st : St) (r : OR) : Prop where
  eq : ∀ v st', r = .ok v st' → st' = st
section
variable {st : St}
theorem Still.bad : Still st .bad := ⟨fun _ _ h => by cases h⟩
theorem Still.ok (v : CV) : Still st (.ok v st) := ⟨fun _ _ h => by cases h; rfl⟩
theorem Still.bsel {b : Bool} {x y : OR} (hx : Still st x) (hy : Still st y) : Still st (bsel b x y) := by cases b; exact hy; exact hx
theorem Still.opt {α : Type} {x : Option α} {n : OR} {f : α → OR} (hn : Still st n) (h : ∀ v, Still st (f v)) : Still st (Option.rec (motive := fun _ => OR) n f x) := by cases x; exact hn; exact h _
theorem Still.forceN {n : Nat} {f : Nat → OR} (h : ∀ v, Still st (f v)) : Still st (Sim.forceN n f) := by rw [forceN_eq]; exact h _
theorem Still.forceZ {n : Int} {f : Int → OR} (h : ∀ v, Still st (f v)) : Still st (Sim.forceZ n f) := by rw [forceZ_eq]; exact h _
theorem Still.okZ {k : IntKind} {n : Int} : Still st (Sim.okZ k st n) := Still.ok _
theorem Still.okN {k : IntKind} {n : Nat} : Still st (Sim.okN k st n) := Still.ok _
theorem Still.forceG {s : Segs CV} {f : Segs CV → OR} (h : ∀ v, Still st (f v)) : Still st (Segs.force s f) := by rw [Segs.force_eq]; exact h _
end
theorem Still.okB {st : St} {b : Bool} : Still st (Sim.okB b st) := by rw [okB_eq]; exact Still.ok _
theorem runOp_still {call : CallF} {op : COp} {fr : Fr} {st : St} (h : op.still = true) : Still st (runOp call op fr st) := by
  cases op <;> first | (cases h; done) | skip
  all_goals
    simp only [runOp]
    first
      | exact Still.ok _
      | (first | unfold pPick | unfold pLoad1 | unfold pLoadN | unfold pNil | unfold pUn | unfold pConv | unfold pS2ap | unfold pIface | unfold pFunc | unfold pSliceStr | unfold pSliceSl | unfold pSlice3
               | unfold pSliceArr | unfold pFieldAddr | unfold pField | unfold pIdxArr | unfold pIdxSl | unfold pIdxStr | unfold pIdxAgg | unfold pLookup | unfold pExtract | unfold pLen | unfold pMM | unfold pBin | unfold pBuild)
  all_goals repeat' first
    | exact Still.ok _
    | exact Still.bad
    | exact Still.okB
    | (cases h; done)
    | apply Still.bsel
    | apply Still.opt
    | apply Still.forceN
    | apply Still.forceZ
    | apply Still.forceG
    | (intro _)
    | (split)
    | (unfold pInt)
    | (unfold pInt2)
    | (unfold pStr)
    | (unfold pEq)
    | (unfold pBits)
    | (unfold pCapLess)
    | (unfold pLookupL)
end Sim
