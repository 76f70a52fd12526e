import Derived.Test.YtfojoloiahhphaaGreatDoorSimX4E
/- Sim, part 33d: code as closures. -/
namespace Sim
open Go

def RxR (r : Rx) (s : Rs) : Prop :=
  match r with
  | .bad => True
  | .norm f st => ∃ fr, s = .norm fr st ∧ XR f fr
  | .exit id f st => ∃ fr, s = .exit id fr st ∧ XR f fr
  | .ret f st => ∃ fr, s = .ret fr st ∧ XR f fr
noncomputable def thenX (r : Rx) (k : Fx → St → Rx) : Rx :=
  Rx.rec (motive := fun _ => (Fx → St → Rx) → Rx) (fun f st k => k f st) (fun id f st _ => .exit id f st) (fun f st _ => .ret f st) (fun _ => .bad) r k
noncomputable def inBlockX (id : Nat) (r : Rx) : Rx :=
  Rx.rec (motive := fun _ => Nat → Rx) (fun f st _ => .norm f st) (fun i f st id => bsel (Nat.beq i id) (.norm f st) (.exit i f st)) (fun f st _ => .ret f st) (fun _ => .bad) r id
noncomputable def loopX (body : Fx → St → Rx) (fuel : Nat) (f : Fx) (st : St) : Rx :=
  Nat.rec (motive := fun _ => (Fx → St → Rx) → Fx → St → Rx) (fun _ _ _ => .bad) (fun _ ih body f st => thenX (body f st) (ih body)) fuel body f st
theorem RxR.then {r : Rx} {s : Rs} {k : Fx → St → Rx} {g : Fr → St → Rs} (h : RxR r s) (hk : ∀ f fr st, XR f fr → RxR (k f st) (g fr st)) : RxR (thenX r k) (thenC s g) := by
  cases r with
  | bad => trivial
  | norm f st => obtain ⟨fr, rfl, hx⟩ := h; exact hk f fr st hx
  | exit id f st => obtain ⟨fr, rfl, hx⟩ := h; exact ⟨fr, rfl, hx⟩
  | ret f st => obtain ⟨fr, rfl, hx⟩ := h; exact ⟨fr, rfl, hx⟩
theorem RxR.block {r : Rx} {s : Rs} (id : Nat) (h : RxR r s) : RxR (inBlockX id r) (inBlockC id s) := by
  cases r with
  | bad => trivial
  | norm f st => obtain ⟨fr, rfl, hx⟩ := h; exact ⟨fr, rfl, hx⟩
  | exit i f st =>
    obtain ⟨fr, rfl, hx⟩ := h
    show RxR (bsel (Nat.beq i id) (.norm f st) (.exit i f st)) (bsel (Nat.beq i id) (.norm fr st) (.exit i fr st))
    cases Nat.beq i id
    · exact ⟨fr, rfl, hx⟩
    · exact ⟨fr, rfl, hx⟩
  | ret f st => obtain ⟨fr, rfl, hx⟩ := h; exact ⟨fr, rfl, hx⟩
theorem RxR.loop {x : Fx → St → Rx} {g : Fr → St → Rs} (hk : ∀ f fr st, XR f fr → RxR (x f st) (g fr st)) : ∀ (fuel : Nat) (f : Fx) (fr : Fr) (st : St), XR f fr → RxR (loopX x fuel f st) (loopC g fuel fr st) := by
  intro fuel
  induction fuel with
  | zero => intro f fr st _; trivial
  | succ fuel ih => intro f fr st h; exact RxR.then (hk f fr st h) ih

def CodeOK (P : Program) (n : Nat) (c : Code) (x : CodeX) : Prop := ∀ call f fr st, XR f fr → RxR (x call f st) (exec P call (runDraw2 P) n c fr st)
noncomputable def codeXK {β : Type} (P : Program) (n : Nat) (c : Code) : (CodeX → β) → β :=
  Code.rec (motive := fun _ => (CodeX → β) → β)
    (fun k => k fun _ f st => .norm f st)
    (fun _ ops draw k => bsel draw (drawYK P n ops k) (opsXK P n ops ops.toList fun s => k fun call f st => s call f st fun f st => .norm f st))
    (fun _ _ x y k => x fun x => y fun y => k fun call f st => thenX (x call f st) fun f st => y call f st)
    (fun c _ _ x y k => Option.rec (motive := fun _ => β) (k fun _ _ _ => .bad) (fun c => argK c (fun g => x fun x => y fun y => k fun call f st => onBx (g f) (x call f st) (y call f st)) (k fun _ _ _ => .bad)) (cArg c))
    (fun id _ x k => x fun x => k fun call f st => inBlockX id (x call f st))
    (fun _ x k => x fun x => k fun call f st => loopX (x call) 1000000 f st)
    (fun _ _ _ _ _ _ k => k fun _ _ _ => .bad)
    (fun id k => k fun _ f st => .exit id f st)
    (fun _ x k => x k)
    (fun _ k => k fun _ f st => .norm f st)
    (fun _ k => k fun _ _ _ => .bad)
    (fun k => k fun _ f st => .ret f st)
    (fun _ k => k fun _ _ _ => .bad) c
theorem codeXK_eq {β : Type} (P : Program) (n : Nat) : ∀ (c : Code) (k : CodeX → β), ∃ x, CodeOK P n c x ∧ codeXK P n c k = k x := by
  intro c
  induction c with
  | skip => intro k; exact (by refine ⟨_, ?_, rfl⟩; intro call f fr st h; exact ⟨fr, rfl, h⟩)
  | region id ops draw =>
    intro k
    have e0 : codeXK P n (.region id ops draw) k = bsel draw (drawYK P n ops k) (opsXK P n ops ops.toList fun s => k fun call f st => s call f st fun f st => .norm f st) := rfl
    rw [e0]
    cases draw with
    | true =>
      obtain ⟨x, hx, e⟩ := drawYK_eq P n ops k
      refine ⟨x, ?_, e⟩
      intro call f fr st h
      rcases hx call f fr st h with h1 | ⟨f', fr', st', h1, h2, h3⟩
      · rw [h1]; trivial
      · rw [h1]; exact ⟨fr', h3, h2⟩
    | false =>
      obtain ⟨s, hs, e⟩ := opsXK_eq P n ops ops.toList (fun s => k fun call f st => s call f st fun f st => .norm f st)
      refine ⟨_, ?_, e⟩
      intro call f fr st h
      try dsimp only
      rcases hs call f fr st (fun f st => .norm f st) h with h1 | ⟨f', fr', st', h1, h2, h3⟩
      · rw [h1]; trivial
      · rw [h3]
        exact ⟨fr', h1, h2⟩
  | seq a b ha hb =>
    intro k
    obtain ⟨x, hx, e1⟩ := ha (fun x => codeXK P n b fun y => k fun call f st => thenX (x call f st) fun f st => y call f st)
    obtain ⟨y, hy, e2⟩ := hb (fun y => k fun call f st => thenX (x call f st) fun f st => y call f st)
    refine ⟨_, ?_, e1.trans e2⟩; intro call f fr st h; exact RxR.then (hx call f fr st h) fun f fr st h => hy call f fr st h
  | cond c a b ha hb =>
    intro k
    have e0 : codeXK P n (.cond c a b) k = Option.rec (motive := fun _ => β) (k fun _ _ _ => .bad) (fun c => argK c (fun g => codeXK P n a fun x => codeXK P n b fun y => k fun call f st => onBx (g f) (x call f st) (y call f st)) (k fun _ _ _ => .bad)) (cArg c) := rfl
    rw [e0]
    cases hc : cArg c with
    | none => exact (by refine ⟨_, ?_, rfl⟩; intro call f fr st h; exact trivial)
    | some c' =>
      dsimp only
      rcases argK_eq c' (fun g => codeXK P n a fun x => codeXK P n b fun y => k fun call f st => onBx (g f) (x call f st) (y call f st)) (k fun _ _ _ => .bad) with ⟨g, hg, e⟩ | e
      · obtain ⟨x, hx, e1⟩ := ha (fun x => codeXK P n b fun y => k fun call f st => onBx (g f) (x call f st) (y call f st))
        obtain ⟨y, hy, e2⟩ := hb (fun y => k fun call f st => onBx (g f) (x call f st) (y call f st))
        refine ⟨_, ?_, e.trans (e1.trans e2)⟩
        intro call f fr st h
        dsimp only
        have e4 : exec P call (runDraw2 P) n (.cond c a b) fr st = condC c (exec P call (runDraw2 P) n a) (exec P call (runDraw2 P) n b) fr st := rfl
        rw [e4, onBx_eq, hg f fr h]
        unfold condC
        rw [hc]
        dsimp only
        cases ev fr c' with
        | bool t =>
          dsimp only
          cases t
          · exact hy call f fr st h
          · exact hx call f fr st h
        | _ => trivial
      · exact (by refine ⟨_, ?_, e⟩; intro call f fr st h; exact trivial)
  | block id a ha =>
    intro k
    obtain ⟨x, hx, e1⟩ := ha (fun x => k fun call f st => inBlockX id (x call f st))
    refine ⟨_, ?_, e1⟩; intro call f fr st h; exact RxR.block id (hx call f fr st h)
  | loop a ha =>
    intro k
    obtain ⟨x, hx, e1⟩ := ha (fun x => k fun call f st => loopX (x call) 1000000 f st)
    refine ⟨_, ?_, e1⟩; intro call f fr st h; exact RxR.loop (fun f fr st h => hx call f fr st h) 1000000 f fr st h
  | rangeFunc f ps a b ha hb => intro k; exact (by refine ⟨_, ?_, rfl⟩; intro call f fr st h; exact trivial)
  | exit id => intro k; exact (by refine ⟨_, ?_, rfl⟩; intro call f fr st h; exact ⟨fr, rfl, h⟩)
  | scope a ha => intro k; exact ha k
  | label l => intro k; exact (by refine ⟨_, ?_, rfl⟩; intro call f fr st h; exact ⟨fr, rfl, h⟩)
  | goto l => intro k; exact (by refine ⟨_, ?_, rfl⟩; intro call f fr st h; exact trivial)
  | ret => intro k; exact (by refine ⟨_, ?_, rfl⟩; intro call f fr st h; exact ⟨fr, rfl, h⟩)
  | refuse y => intro k; exact (by refine ⟨_, ?_, rfl⟩; intro call f fr st h; exact trivial)
end Sim
