import Derived.Test.YtfojoloiahhphaaGreatDoorSimHot
/- Sim, part 20: an operation of a region, and a region in order. -/
namespace Sim
open Go

noncomputable def forceS {β : Type} (st : St) (k : St → β) : β := St.rec (fun mem next => PT.force mem fun mem => k ⟨mem, next⟩) st
theorem forceS_eq {β : Type} (st : St) (k : St → β) : forceS st k = k st := by
  cases st; simp only [forceS, PT.force_eq]

inductive Rs where
  | norm (fr : Fr) (st : St)
  | exit (id : Nat) (fr : Fr) (st : St)
  | ret (fr : Fr) (st : St)
  | bad

noncomputable def wantG (gb : Nat × Bool) (ops : Array Oper) (fr : Fr) : Option Bool :=
  match (ops[gb.1]?).bind (·.dst) with
    | none => some false
    | some d => (match fget fr (Bp.enc d) with
      | .bool c => some (bsel gb.2 c (Bool.not c))
      | .undef => some false
      | _ => none)
noncomputable def wantedC (ops : Array Oper) (fr : Fr) (o : Oper) : Option Bool :=
  Option.rec (motive := fun _ => Array Oper → Fr → Option Bool) (fun _ _ => some true) (fun gb ops fr => wantG gb ops fr) o.guard ops fr
noncomputable def step1 (P : Program) (call : CallF) (o : Oper) (fr : Fr) (st : St) : OR := Option.rec (motive := fun _ => CallF → Fr → St → OR) (fun _ _ _ => .bad) (fun op call fr st => runOpH op call fr st) (compOpT P o.op) call fr st
noncomputable def stepC (P : Program) (call : CallF) (ops : Array Oper) (o : Oper) (fr : Fr) (st : St) : OR :=
  Option.rec (motive := fun _ => Program → CallF → Oper → Fr → St → OR) (fun _ _ _ _ _ => .bad)
    (fun b P call o fr st => Bool.rec (motive := fun _ => Program → CallF → Oper → Fr → St → OR) (fun _ _ _ _ st => .ok .undef st) (fun P call o fr st => step1 P call o fr st) b P call o fr st) (wantedC ops fr o) P call o fr st
theorem stepC_eq (P : Program) (call : CallF) (ops : Array Oper) (o : Oper) (fr : Fr) (st : St) : stepC P call ops o fr st =
    match wantedC ops fr o with
    | some true => (match compOpT P o.op with | some op => runOp call op fr st | none => .bad)
    | some false => .ok .undef st
    | none => .bad := by
  unfold stepC
  cases wantedC ops fr o with
  | none => rfl
  | some b =>
    cases b with
    | false => rfl
    | true =>
      show step1 P call o fr st = _
      unfold step1
      cases compOpT P o.op with
      | none => rfl
      | some op => exact runOpH_eq op call fr st
theorem wantedC_eq (ops : Array Oper) (fr : Fr) (o : Oper) : wantedC ops fr o =
    match o.guard with
    | none => some true
    | some (g, b) => (match (ops[g]?).bind (·.dst) with
      | none => some false
      | some d => (match fget fr (Bp.enc d) with
        | .bool c => some (bsel b c (Bool.not c))
        | .undef => some false
        | _ => none)) := by
  unfold wantedC
  cases o.guard with
  | none => rfl
  | some gb => rfl

section
variable {P : Program} {ρ : Ren} {st st' : St} {w : World} {v : CV} {fr : Fr} {a : Act} {call : CallF}
theorem wantedC_sound {ops : Array Oper} {o : Oper} {b : Bool} (h : wantedC ops fr o = some b) (hf : FR ρ fr a.tmps) : Region.wanted o (yielded ops a.tmps) = b := by
  rw [wantedC_eq] at h
  unfold Region.wanted
  split at h
  · rename_i hg; cases h; rw [hg]
  · rename_i g want hg
    rw [hg]
    dsimp only
    unfold yielded
    split at h
    · rename_i hd; cases h; rw [hd]; rfl
    · rename_i d hd
      rw [hd, Option.bind_some]
      have hv := hf d
      split at h
      · rename_i c hc
        cases h
        rw [hc] at hv
        cases htd : a.tmps[d]? with
        | none =>
          have : a.tmps.getD d Go.undef = Go.undef := by simp [htd]
          rw [this] at hv; cases hv
        | some x =>
          have : a.tmps.getD d Go.undef = x := by simp [htd]
          rw [this] at hv; cases hv
          dsimp only
          cases c <;> cases want <;> rfl
      · rename_i hc
        cases h
        rw [hc] at hv
        cases htd : a.tmps[d]? with
        | none => rfl
        | some x =>
          have : a.tmps.getD d Go.undef = x := by simp [htd]
          rw [this] at hv; cases hv
          rfl
      · cases h

theorem stepC_sound (hc : CallSound P call) {ops : Array Oper} {o : Oper} (h : stepC P call ops o fr st = .ok v st') (hw : WR ρ st w) (hf : FR ρ fr a.tmps) {next : Act → World → Prop} {Q : Exit → Act → World → Prop}
    (hn : ∀ v' w' ρ', VR ρ' v v' → After ρ st w ρ' st' w' → next (a.put o.dst v') w') :
    if Region.wanted o (yielded ops a.tmps) then o.wp P a w next Q else next (a.put o.dst undef) w := by
  rw [stepC_eq] at h
  split at h
  · rename_i hwt
    rw [if_pos (wantedC_sound hwt hf)]
    split at h
    · rename_i op hop; rw [compOpT_eq] at hop; exact compOp_sound hc hop h hw hf hn
    · cases h
  · rename_i hwt
    rw [if_neg (by rw [wantedC_sound hwt hf]; simp)]
    cases h
    exact hn _ w ρ .undef (After.refl hw)
  · cases h
end

noncomputable def afterOp (n : Nat) (dst : Option Tmp) : CV → Fr → St → (Fr → St → Rs) → Rs :=
  Option.rec (motive := fun _ => CV → Fr → St → (Fr → St → Rs) → Rs) (fun _ fr st k => k fr st)
    (fun d v fr st k => bsel (Nat.ble (Nat.succ d) n) (forceV v fun v => PT.force (fr.put (Bp.enc d) (some v)) fun fr => k fr st) .bad) dst
noncomputable def runOps (P : Program) (call : CallF) (n : Nat) (ops : Array Oper) (l : List Oper) (fr : Fr) (st : St) : Rs :=
  List.rec (motive := fun _ => Program → CallF → Nat → Array Oper → Fr → St → Rs) (fun _ _ _ _ fr st => .norm fr st) (fun o _ ih P call n ops fr st =>
    OR.rec (motive := fun _ => (CV → St → Rs) → Rs) (fun v st k => k v st) (fun _ => .bad) (stepC P call ops o fr st) fun v st => forceS st fun st => afterOp n o.dst v fr st (ih P call n ops)) l P call n ops fr st

/-- What a piece of code comes to. -/
structure Post1 (ρ : Ren) (st : St) (w : World) (n : Nat) (fr' : Fr) (st' : St) (a' : Act) (w' : World) (ρ' : Ren) : Prop where
  fr : FR ρ' fr' a'.tmps
  sz : n ≤ a'.tmps.size
  defers : a'.defers = []
  after : After ρ st w ρ' st' w'
def Post (ρ : Ren) (st : St) (w : World) (n : Nat) (r : Rs) (e : Exit) (a' : Act) (w' : World) : Prop :=
  match r with
  | .norm fr' st' => e = .normal ∧ ∃ ρ', Post1 ρ st w n fr' st' a' w' ρ'
  | .exit id fr' st' => e = .exit id ∧ ∃ ρ', Post1 ρ st w n fr' st' a' w' ρ'
  | .ret fr' st' => e = .ret ∧ ∃ ρ', Post1 ρ st w n fr' st' a' w' ρ'
  | .bad => False

theorem Post.step {ρ ρ1 : Ren} {st st1 : St} {w w1 : World} {n : Nat} {r : Rs} {e : Exit} {a' : Act} {w' : World} (hA : After ρ st w ρ1 st1 w1) (h : Post ρ1 st1 w1 n r e a' w') : Post ρ st w n r e a' w' := by
  cases r <;> simp only [Post] at h ⊢
  · obtain ⟨h1, ρ', h2⟩ := h; exact ⟨h1, ρ', h2.fr, h2.sz, h2.defers, hA.trans h2.after⟩
  · obtain ⟨h1, ρ', h2⟩ := h; exact ⟨h1, ρ', h2.fr, h2.sz, h2.defers, hA.trans h2.after⟩
  · obtain ⟨h1, ρ', h2⟩ := h; exact ⟨h1, ρ', h2.fr, h2.sz, h2.defers, hA.trans h2.after⟩

theorem put_size (a : Act) (d : Option Tmp) (v : Value) : (a.put d v).tmps.size = a.tmps.size := by cases d <;> simp [Act.put]
theorem put_defers (a : Act) (d : Option Tmp) (v : Value) : (a.put d v).defers = a.defers := by cases d <;> rfl

section
variable {P : Program} {call : CallF} {n : Nat} {ops : Array Oper}
theorem runOps_nil (fr : Fr) (st : St) : runOps P call n ops [] fr st = .norm fr st := rfl
theorem runOps_cons (o : Oper) (l : List Oper) (fr : Fr) (st : St) : runOps P call n ops (o :: l) fr st =
    match stepC P call ops o fr st with
    | .ok v st => (match o.dst with | none => runOps P call n ops l fr st | some d => if d < n then runOps P call n ops l (fr.put (Bp.enc d) (some v)) st else .bad)
    | .bad => .bad := by
  have e : runOps P call n ops (o :: l) fr st = OR.rec (motive := fun _ => (CV → St → Rs) → Rs) (fun v st k => k v st) (fun _ => .bad) (stepC P call ops o fr st) fun v st => forceS st fun st => afterOp n o.dst v fr st (runOps P call n ops l) := rfl
  rw [e]
  cases stepC P call ops o fr st with
  | ok v st =>
    dsimp only
    rw [forceS_eq]
    unfold afterOp
    cases o.dst with
    | none => rfl
    | some d => simp only [forceV_eq, PT.force_eq, bsel_eq, Nat.ble_eq, Nat.succ_le_iff]
  | bad => rfl

theorem FR.putO {ρ : Ren} {fr : Fr} {a : Act} (h : FR ρ fr a.tmps) {d : Nat} (hd : d < a.tmps.size) {v : CV} {v' : Value} (hv : VR ρ v v') : FR ρ (fr.put (Bp.enc d) (some v)) (a.put (some d) v').tmps := h.put hd hv

theorem runOps_sound (hc : CallSound P call) (l : List Oper) : ∀ (fr : Fr) (st : St) (ρ : Ren) (a : Act) (w : World), runOps P call n ops l fr st ≠ .bad → WR ρ st w → FR ρ fr a.tmps → n ≤ a.tmps.size → a.defers = [] →
    wpList P ops (Post ρ st w n (runOps P call n ops l fr st)) l a w := by
  induction l with
  | nil => intro fr st ρ a w _ hw hf hn hd; rw [runOps_nil]; exact wpList_nil ⟨rfl, ρ, hf, hn, hd, After.refl hw⟩
  | cons o l ih =>
    intro fr st ρ a w hb hw hf hn hd
    rw [runOps_cons] at hb ⊢
    cases hs : stepC P call ops o fr st with
    | bad => rw [hs] at hb; exact absurd rfl hb
    | ok v st1 =>
      rw [hs] at hb
      refine wpList_step fun K hK => stepC_sound hc hs hw hf fun v' w' ρ' hv hA => hK _ _ ?_
      dsimp only at hb ⊢
      have mono : ∀ {r : Rs} {l : List Oper} {a : Act} {w1 : World}, wpList P ops (Post ρ' st1 w' n r) l a w1 → wpList P ops (Post ρ st w n r) l a w1 := by
        intro r l
        induction l with
        | nil => intro a w1 h; exact Post.step hA h
        | cons o l ih =>
          intro a w1 h
          unfold wpList at h ⊢
          split
          · rename_i hwt; rw [if_pos hwt] at h
            rcases h with h | ⟨h1, a2, w2, h2⟩
            · left
              unfold Oper.wp at h ⊢
              generalize (execOp a.eval o).run P w1 = rr at h ⊢
              cases rr with
              | ok x w2 =>
                cases x <;> simp only [Oper.upon] at h ⊢ <;> first
                  | exact ih h
                  | exact h.mono (fun e w3 he => by cases e <;> first | exact ih he | exact Post.step hA he | (obtain ⟨a4, w4, h4⟩ := he; exact ⟨a4, w4, Post.step hA h4⟩))
                  | exact h.mono (fun _ _ he => ih he)
              | halt x w2 => cases x <;> simp only [Oper.upon] at h ⊢ <;> exact Post.step hA h
            · exact .inr ⟨h1, a2, w2, Post.step hA h2⟩
          · rename_i hwt; rw [if_neg hwt] at h; exact ih h
      cases hdst : o.dst with
      | none =>
        rw [hdst] at hb
        refine mono (ih fr st1 ρ' (a.put none v') w' hb hA.wr (hf.mono hA.ext) hn hd)
      | some d =>
        rw [hdst] at hb
        dsimp only at hb ⊢
        split at hb
        · rename_i hdn
          rw [if_pos hdn]
          exact mono (ih _ st1 ρ' (a.put (some d) v') w' hb hA.wr ((hf.mono hA.ext).putO (Nat.lt_of_lt_of_le hdn hn) hv) (by rw [put_size]; exact hn) (by rw [put_defers]; exact hd))
        · exact absurd rfl hb
end
end Sim
