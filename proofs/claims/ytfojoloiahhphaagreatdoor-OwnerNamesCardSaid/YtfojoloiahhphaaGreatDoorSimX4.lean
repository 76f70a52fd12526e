import Derived.Test.YtfojoloiahhphaaGreatDoorSimX3
/- Sim, part 33: code as closures. (Printed by genx4.py.) -/
namespace Sim
open Go

noncomputable def onG (v : CV) : Bool → Rx → Rx → Rx := CV.rec (motive_1 := fun _ => Bool → Rx → Rx → Rx) (motive_2 := fun _ => PUnit) (fun _ _ skip => skip) (fun b want run skip => bsel (bsel want b (Bool.not b)) run skip) (fun _ _ => fun _ _ _ => .bad) (fun _ _ => fun _ _ _ => .bad) (fun _ _ _ => .bad) (fun _ _ => fun _ _ _ => .bad) (fun _ _ _ => .bad) (fun _ _ _ _ _ => fun _ _ _ => .bad) (fun _ _ _ => .bad) (fun _ => fun _ _ _ => .bad) (fun _ _ _ _ _ => fun _ _ _ => .bad) (fun _ _ _ => .bad) (fun _ _ _ => fun _ _ _ => .bad) (fun _ _ _ => .bad) (fun _ _ => fun _ _ _ => .bad) (fun _ _ => fun _ _ _ => .bad) (fun _ => fun _ _ _ => .bad) PUnit.unit (fun _ _ _ _ => PUnit.unit) (fun _ _ _ _ => PUnit.unit) v 
noncomputable def onBx (v : CV) : Rx → Rx → Rx := CV.rec (motive_1 := fun _ => Rx → Rx → Rx) (motive_2 := fun _ => PUnit) (fun _ _ => .bad) (fun b x y => Bool.rec (motive := fun _ => Rx) y x b) (fun _ _ => fun _ _ => .bad) (fun _ _ => fun _ _ => .bad) (fun _ _ => .bad) (fun _ _ => fun _ _ => .bad) (fun _ _ => .bad) (fun _ _ _ _ _ => fun _ _ => .bad) (fun _ _ => .bad) (fun _ => fun _ _ => .bad) (fun _ _ _ _ _ => fun _ _ => .bad) (fun _ _ => .bad) (fun _ _ _ => fun _ _ => .bad) (fun _ _ => .bad) (fun _ _ => fun _ _ => .bad) (fun _ _ => fun _ _ => .bad) (fun _ => fun _ _ => .bad) PUnit.unit (fun _ _ _ _ => PUnit.unit) (fun _ _ _ _ => PUnit.unit) v 
theorem onG_eq (v : CV) (want : Bool) (run skip : Rx) : onG v want run skip = (match v with | .bool c => bsel (bsel want c (Bool.not c)) run skip | .undef => skip | _ => .bad) := by cases v <;> rfl
theorem onBx_eq (v : CV) (x y : Rx) : onBx v x y = (match v with | .bool t => bsel t x y | _ => .bad) := by cases v <;> rfl
abbrev CodeX := CallF → Fx → St → Rx
abbrev WrX := Fx → CV → St → (Fx → St → Rx) → Rx

noncomputable def dstXK {β : Type} (n : Nat) (d : Option Tmp) (k : WrX → β) (bad : β) : β :=
  Option.rec (motive := fun _ => β) (k fun f _ st kk => kk f st) (fun d => bsel (Nat.ble (Nat.succ d) n) (xputK d (fun pd => k fun f v st kk => pd f v fun f => kk f st) bad) bad) d
def DstOK (n : Nat) (d : Option Tmp) (wr : WrX) : Prop := (∀ f v st kk, wr f v st kk = match d with | none => kk f st | some d => kk (xput d f v) st) ∧ ∀ d', d = some d' → d' < n ∧ d' < 256
theorem dstXK_eq {β : Type} (n : Nat) (d : Option Tmp) (k : WrX → β) (bad : β) : (∃ wr, DstOK n d wr ∧ dstXK n d k bad = k wr) ∨ dstXK n d k bad = bad := by
  cases d with
  | none => exact .inl ⟨_, ⟨fun _ _ _ _ => rfl, fun d h => by cases h⟩, rfl⟩
  | some d =>
    show (∃ wr, DstOK n (some d) wr ∧ bsel (Nat.ble (Nat.succ d) n) (xputK d (fun pd => k fun f v st kk => pd f v fun f => kk f st) bad) bad = k wr) ∨ bsel (Nat.ble (Nat.succ d) n) (xputK d (fun pd => k fun f v st kk => pd f v fun f => kk f st) bad) bad = bad
    rw [bsel_eq]
    split
    · rename_i hd
      have hd' : d < n := by rw [Nat.ble_eq] at hd; exact hd
      rcases xputK_eq (R := Rx) d (fun pd => k fun f v st kk => pd f v fun f => kk f st) bad with ⟨hi, p, hp, e⟩ | ⟨_, e⟩
      · exact .inl ⟨_, ⟨fun f v st kk => hp f v _, fun d' h => by cases h; exact ⟨hd', hi⟩⟩, e⟩
      · exact .inr e
    · exact .inr rfl

noncomputable def guardXK {β : Type} (ops : Array Oper) (g : Option (Nat × Bool)) (s : OpX) (wr : WrX) (k : StepX → β) (bad : β) : β :=
  Option.rec (motive := fun _ => β) (k fun call f st kk => s call f st fun v st => wr f v st kk)
    (fun gb => Option.rec (motive := fun _ => β) (k fun _ f st kk => wr f .undef st kk)
      (fun d => xgetK d (fun gg => k fun call f st kk => onG (gg f) gb.2 (s call f st fun v st => wr f v st kk) (wr f .undef st kk)) bad) ((ops[gb.1]?).bind (·.dst))) g
noncomputable def stepXK {β : Type} (P : Program) (n : Nat) (ops : Array Oper) (o : Oper) (k : StepX → β) (bad : β) : β :=
  Option.rec (motive := fun _ => β) bad (fun op => opXK op (fun s => dstXK n o.dst (fun wr => guardXK ops o.guard s wr k bad) bad) bad) (compOpT P o.op)
def StepOK (P : Program) (n : Nat) (ops : Array Oper) (o : Oper) (s : StepX) : Prop := ∀ call f fr st kk, XR f fr → s call f st kk = .bad ∨
  ∃ v st', stepC P call ops o fr st = .ok v st' ∧ (match o.dst with | none => s call f st kk = kk f st' | some d => d < n ∧ d < 256 ∧ s call f st kk = kk (xput d f v) st')
theorem stepXK_eq {β : Type} (P : Program) (n : Nat) (ops : Array Oper) (o : Oper) (k : StepX → β) (bad : β) : (∃ s, StepOK P n ops o s ∧ stepXK P n ops o k bad = k s) ∨ stepXK P n ops o k bad = bad := by
  unfold stepXK
  cases hop : compOpT P o.op with
  | none => exact .inr rfl
  | some op =>
    dsimp only
    rcases opXK_eq op (fun s => dstXK n o.dst (fun wr => guardXK ops o.guard s wr k bad) bad) bad with ⟨s, hs, e⟩ | e
    · rcases dstXK_eq n o.dst (fun wr => guardXK ops o.guard s wr k bad) bad with ⟨wr, hwr, e2⟩ | e2
      · rw [e, e2]
        -- what a step does, once it is known whether it is wanted
        have fin : ∀ call f fr st kk, XR f fr → wantedC ops fr o = some true → (s call f st fun v st => wr f v st kk) = .bad ∨
            ∃ v st', stepC P call ops o fr st = .ok v st' ∧ (match o.dst with | none => (s call f st fun v st => wr f v st kk) = kk f st' | some d => d < n ∧ d < 256 ∧ (s call f st fun v st => wr f v st kk) = kk (xput d f v) st') := by
          intro call f fr st kk h hw
          rw [hs call f fr st _ h, stepC_eq, hw, hop]
          dsimp only
          cases runOp call op fr st with
          | bad => exact .inl rfl
          | ok v st' =>
            refine .inr ⟨v, st', rfl, ?_⟩
            have h1 := hwr.1 f v st' kk
            cases hd : o.dst with
            | none => rw [hd] at h1; exact h1
            | some d => rw [hd] at h1; exact ⟨(hwr.2 d hd).1, (hwr.2 d hd).2, h1⟩
        have skp : ∀ call f fr st kk, wantedC ops fr o = some false → 
            ∃ v st', stepC P call ops o fr st = .ok v st' ∧ (match o.dst with | none => wr f .undef st kk = kk f st' | some d => d < n ∧ d < 256 ∧ wr f .undef st kk = kk (xput d f v) st') := by
          intro call f fr st kk hw
          rw [stepC_eq, hw]
          refine ⟨.undef, st, rfl, ?_⟩
          have h1 := hwr.1 f .undef st kk
          cases hd : o.dst with
          | none => rw [hd] at h1; exact h1
          | some d => rw [hd] at h1; exact ⟨(hwr.2 d hd).1, (hwr.2 d hd).2, h1⟩
        unfold guardXK
        cases hg : o.guard with
        | none =>
          refine .inl ⟨_, ?_, rfl⟩
          intro call f fr st kk h
          exact fin call f fr st kk h (by rw [wantedC_eq, hg])
        | some gb =>
          obtain ⟨g, want⟩ := gb
          dsimp only
          cases hb : (ops[g]?).bind (·.dst) with
          | none =>
            refine .inl ⟨_, ?_, rfl⟩
            intro call f fr st kk h
            exact .inr (skp call f fr st kk (by rw [wantedC_eq, hg]; dsimp only; rw [hb]))
          | some d =>
            dsimp only
            rcases xgetK_eq d (fun gg => k fun call f st kk => onG (gg f) want (s call f st fun v st => wr f v st kk) (wr f .undef st kk)) bad with ⟨hi, gg, hgg, e3⟩ | ⟨_, e3⟩
            · refine .inl ⟨_, ?_, e3⟩
              intro call f fr st kk h
              dsimp only
              rw [onG_eq, hgg f, h d hi]
              have hwc : wantedC ops fr o = (match fget fr (Bp.enc d) with | .bool c => some (bsel want c (Bool.not c)) | .undef => some false | _ => none) := by
                rw [wantedC_eq, hg]; dsimp only; rw [hb]; rfl
              generalize fget fr (Bp.enc d) = cv at hwc ⊢
              cases cv with
              | bool c =>
                dsimp only at hwc ⊢
                cases hbb : bsel want c (Bool.not c) with
                | true => rw [hbb] at hwc; exact fin call f fr st kk h hwc
                | false => rw [hbb] at hwc; exact .inr (skp call f fr st kk hwc)
              | undef => exact .inr (skp call f fr st kk hwc)
              | _ => exact .inl rfl
            · exact .inr e3
      · exact .inr (e.trans e2)
    · exact .inr e

noncomputable def opsXK {β : Type} (P : Program) (n : Nat) (ops : Array Oper) (l : List Oper) : (StepX → β) → β :=
  List.rec (motive := fun _ => (StepX → β) → β) (fun k => k fun _ f st kk => kk f st)
    (fun o _ ih k => stepXK P n ops o (fun s => ih fun r => k fun call f st kk => s call f st fun f st => r call f st kk) (k fun _ _ _ _ => .bad)) l
def OpsOK (P : Program) (n : Nat) (ops : Array Oper) (l : List Oper) (s : StepX) : Prop := ∀ call f fr st kk, XR f fr → s call f st kk = .bad ∨
  ∃ f' fr' st', runOps P call n ops l fr st = .norm fr' st' ∧ XR f' fr' ∧ s call f st kk = kk f' st'
theorem opsXK_eq {β : Type} (P : Program) (n : Nat) (ops : Array Oper) : ∀ (l : List Oper) (k : StepX → β), ∃ s, OpsOK P n ops l s ∧ opsXK P n ops l k = k s := by
  intro l
  induction l with
  | nil => intro k; exact ⟨_, fun call f fr st kk h => .inr ⟨f, fr, st, runOps_nil fr st, h, rfl⟩, rfl⟩
  | cons o l ih =>
    intro k
    have e0 : opsXK P n ops (o :: l) k = stepXK P n ops o (fun s => opsXK P n ops l fun r => k fun call f st kk => s call f st fun f st => r call f st kk) (k fun _ _ _ _ => .bad) := rfl
    rcases stepXK_eq P n ops o (fun s => opsXK P n ops l fun r => k fun call f st kk => s call f st fun f st => r call f st kk) (k fun _ _ _ _ => .bad) with ⟨s, hs, e⟩ | e
    · obtain ⟨r, hr, e2⟩ := ih (fun r => k fun call f st kk => s call f st fun f st => r call f st kk)
      refine ⟨_, ?_, e0.trans (e.trans e2)⟩
      intro call f fr st kk h
      rcases hs call f fr st (fun f st => r call f st kk) h with hb | ⟨v, st', h1, h2⟩
      · exact .inl hb
      · rw [runOps_cons, h1]
        cases hd : o.dst with
        | none =>
          rw [hd] at h2
          dsimp only at h2 ⊢
          rw [h2]
          exact hr call f fr st' kk h
        | some d =>
          rw [hd] at h2
          dsimp only at h2 ⊢
          obtain ⟨g1, g2, g3⟩ := h2
          rw [g3, if_pos g1]
          exact hr call _ _ st' kk (h.put g2 v)
    · exact ⟨_, fun call f fr st kk h => .inl rfl, e0.trans e⟩

end Sim
