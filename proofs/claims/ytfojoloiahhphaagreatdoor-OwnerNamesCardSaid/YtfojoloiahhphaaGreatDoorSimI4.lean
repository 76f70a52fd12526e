import Derived.Test.YtfojoloiahhphaaGreatDoorSimI1
/- Sim, part 43: calls whose arguments and answer bear no pointer: asked in an empty memory, so that the kernel asks but once. -/
namespace Sim
open Go

noncomputable def flatC (v : CV) : Bool := match v with | .bool _ | .int _ _ | .str _ _ | .nilptr | .nilslice | .nilmap | .nilfunc | .niliface => true | _ => false
noncomputable def flatS (s : Segs CV) : Bool := Segs.rec (motive := fun _ => Bool) true (fun v _ ih => Bool.and (flatC v) ih) (fun _ _ _ ih => ih) s
noncomputable def flatV (v : CV) : Bool :=
  match v with
  | .undef | .bool _ | .int _ _ | .str _ _ | .nilptr | .nilslice | .nilmap | .nilfunc | .niliface => true
  | .agg s => flatS s
  | _ => false
noncomputable def flatT (v : CV) : Bool := match v with | .tuple s => Segs.rec (motive := fun _ => Bool) true (fun v _ ih => Bool.and (flatV v) ih) (fun _ _ _ ih => ih) s | v => flatV v
def noRen : Ren := fun _ => none
theorem flat1 {ρ ρ' : Ren} {v : CV} {v' : Value} (h : flatC v = true) (hv : VR ρ v v') : VR ρ' v v' := by
  cases hv <;> first | (cases h; done) | constructor
theorem flatS_VRs {ρ ρ' : Ren} : ∀ {s : Segs CV} {l : List Value}, flatS s = true → VRs ρ (row s) l → VRs ρ' (row s) l := by
  intro s
  induction s with
  | nil => intro l _ h; exact ⟨h.len, fun i v v' a => by simp [row, Segs.cells] at a⟩
  | one v r ih =>
    intro l h hv
    have h : Bool.and (flatC v) (flatS r) = true := h
    rw [Bool.and_eq_true] at h
    obtain ⟨v', t', rfl, h1, h2⟩ := hv.inv
    exact VRs.cons (flat1 h.1 h1) (ih h.2 h2)
  | bytes n val r ih =>
    intro l h hv
    have h : flatS r = true := h
    have e : row (Segs.bytes n val r) = (ub n val).map byteV ++ row r := rfl
    rw [e] at hv ⊢
    have hl : l = l.take ((ub n val).map byteV).length ++ l.drop ((ub n val).map byteV).length := (List.take_append_drop _ _).symm
    have h1 : VRs ρ ((ub n val).map byteV) (l.take ((ub n val).map byteV).length) := by
      have := hv.take ((ub n val).map byteV).length
      rwa [List.take_left'] at this; rfl
    have h2 : VRs ρ (row r) (l.drop ((ub n val).map byteV).length) := by
      have := hv.drop ((ub n val).map byteV).length
      rwa [List.drop_left'] at this; rfl
    rw [hl]
    refine VRs.app ⟨h1.len, fun i v v' a b => ?_⟩ (ih h h2)
    have hx := h1.at' i v v' a b
    rw [List.getElem?_map] at a
    cases hu : (ub n val)[i]? with
    | none => rw [hu] at a; cases a
    | some x => rw [hu] at a; cases a; cases hx; exact .int _ _
theorem flatV_VR {ρ ρ' : Ren} {v : CV} {v' : Value} (h : flatV v = true) (hv : VR ρ v v') : VR ρ' v v' := by
  cases hv <;> first | (cases h; done) | skip
  all_goals first
    | exact .undef | exact .bool _ | exact .int _ _ | exact .str _ _ | exact .nilptr | exact .nilslice | exact .nilmap | exact .nilfunc | exact .niliface
    | skip
  rename_i s l hl hh
  exact VR.agg' (flatS_VRs h ⟨hl, hh⟩)
theorem flatT_VR {ρ ρ' : Ren} {v : CV} {v' : Value} (h : flatT v = true) (hv : VR ρ v v') : VR ρ' v v' := by
  by_cases ht : ∃ s, v = .tuple s
  · obtain ⟨s, rfl⟩ := ht
    cases hv with
    | tuple _ l hl hh =>
      have key : ∀ (s : Segs CV) (l : List Value), Segs.rec (motive := fun _ => Bool) true (fun v _ ih => Bool.and (flatV v) ih) (fun _ _ _ ih => ih) s = true → VRs ρ (row s) l → VRs ρ' (row s) l := by
        intro s
        induction s with
        | nil => intro l _ h; exact ⟨h.len, fun i v v' a => by simp [row, Segs.cells] at a⟩
        | one v r ih =>
          intro l h hv
          simp only [Bool.and_eq_true] at h
          obtain ⟨v', t', rfl, h1, h2⟩ := hv.inv
          exact VRs.cons (flatV_VR h.1 h1) (ih _ h.2 h2)
        | bytes n val r ih =>
          intro l h hv
          have e : row (Segs.bytes n val r) = (ub n val).map byteV ++ row r := rfl
          rw [e] at hv ⊢
          have hl : l = l.take ((ub n val).map byteV).length ++ l.drop ((ub n val).map byteV).length := (List.take_append_drop _ _).symm
          have h1 : VRs ρ ((ub n val).map byteV) (l.take ((ub n val).map byteV).length) := by
            have := hv.take ((ub n val).map byteV).length
            rwa [List.take_left'] at this; rfl
          have h2 : VRs ρ (row r) (l.drop ((ub n val).map byteV).length) := by
            have := hv.drop ((ub n val).map byteV).length
            rwa [List.drop_left'] at this; rfl
          rw [hl]
          refine VRs.app ⟨h1.len, fun i v v' a b => ?_⟩ (ih _ h h2)
          have hx := h1.at' i v v' a b
          rw [List.getElem?_map] at a
          cases hu : (ub n val)[i]? with
          | none => rw [hu] at a; cases a
          | some x => rw [hu] at a; cases a; cases hx; exact .int _ _
      exact VR.tuple' (key s l h ⟨hl, hh⟩)
  · refine flatV_VR ?_ hv
    unfold flatT at h
    split at h
    · exact absurd ⟨_, rfl⟩ ht
    · exact h
/-- What a call in an empty memory leaves of the one that is there. -/
theorem CallOK.flat {P : Program} {f : Nat} {args : List CV} {v : CV} {s' : St} (h : CallOK P f args ⟨.nil, .e⟩ v s') (ha : allL args flatV = true) (hv : flatT v = true) (st : St) : CallOK P f args st v st := by
  intro ρ w args' hw hargs
  have hw0 : WR noRen ⟨.nil, .e⟩ w := ⟨fun b blk r sz _ h => (by cases h), fun b b' k k' r s s' _ _ h => (by cases h), fun b x h => (by cases h), hw.glob.keep (fun b blk r sz h _ => by cases h) (fun _ _ _ => rfl)⟩
  rw [allL_iff] at ha
  refine (h noRen w args' hw0 ⟨hargs.len, fun i v v' a b => flatV_VR (ha v (List.mem_of_getElem? a)) (hargs.at' i v v' a b)⟩).mono ?_
  rintro e w' ⟨v', ρ', rfl, hvr, hA⟩
  refine ⟨v', ρ, rfl, flatT_VR hv hvr, ?_⟩
  have hk : ∀ r, r < w.heap.size → w'.heap[r]? = w.heap[r]? := fun r hr => hA.kept r hr fun b blk sz _ h => (by cases h)
  exact ⟨⟨fun b blk r sz h1 h2 => by
      obtain ⟨o, e2, e3⟩ := hw.at' b blk r sz h1 h2
      exact ⟨o, by rw [hk r (Array.getElem?_eq_some_iff.1 e2).1]; exact e2, e3⟩, hw.inj, hw.fresh, hw.glob.keep (fun b blk _ sz h1 h2 => .inl ⟨b, blk, sz, h1, h2⟩) (fun r hr _ => hk r hr)⟩, fun _ _ h => h, fun _ _ h => h, Nat.le_refl _, fun b blk _ sz h1 h2 => .inl ⟨b, blk, sz, h1, h2⟩,
    fun r hr _ => hk r hr, hA.size, hA.os, hA.output⟩

noncomputable def forceVL (l : List CV) : (List CV → OR) → OR := List.rec (motive := fun _ => (List CV → OR) → OR) (fun k => k []) (fun v _ ih k => forceVO v fun v => ih fun r => k (v :: r)) l
theorem forceVL_eq : ∀ (l : List CV) (k : List CV → OR), forceVL l k = k l := by
  intro l
  induction l with
  | nil => intro k; rfl
  | cons v l ih =>
    intro k
    have e : forceVL (v :: l) k = forceVO v fun v => forceVL l fun r => k (v :: r) := rfl
    rw [e, forceVO_eq, ih]
noncomputable def flatG (F : FunX) : FunX := fun call args st => forceVL args fun args =>
  bsel (allL args flatV) (OR.rec (motive := fun _ => OR) (fun v _ => bsel (flatT v) (.ok v st) (F call args st)) (F call args st) (F call args ⟨.nil, .e⟩)) (F call args st)
theorem flatG_sound {P : Program} {f : Nat} {call : CallF} {F : FunX} (hm : P.follows .mixedOrders = true) (hF : funXK P f = some F) (hc : CallSound P call) (args : List CV) (st : St) (v : CV) (st' : St) (h : flatG F call args st = .ok v st') : CallOut P f args st v st' := by
  have plain : ∀ args st v st', F call args st = .ok v st' → callable P f = true ∧ CallOK P f args st v st' := fun args st v st' h => by
    rcases funXK_ok hF call args st with h1 | h1
    · rw [h1] at h; cases h
    · rw [h1] at h
      exact enterC_sound hc (runDraw2_sound hm) h
  left
  unfold flatG at h
  rw [forceVL_eq, bsel_eq] at h
  split at h
  · rename_i ha
    cases hr : F call args ⟨.nil, .e⟩ with
    | bad => rw [hr] at h; exact plain _ _ _ _ h
    | ok v1 s1 =>
      rw [hr] at h
      dsimp only at h
      rw [bsel_eq] at h
      split at h
      · rename_i hv
        cases h
        obtain ⟨h1, h2⟩ := plain _ _ _ _ hr
        exact ⟨h1, h2.flat ha hv st⟩
      · exact plain _ _ _ _ h
  · exact plain _ _ _ _ h
end Sim
