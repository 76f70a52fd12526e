import Derived.Test.YtpinmfjiiapgfaaGreatDoorSimB
import Derived.Orders
/- Sim, part 20: an operation of a region, and a region in order. -/
namespace Sim
open Go

noncomputable def forceS {β : Type} (st : St) (k : St → β) : β := St.rec (fun mem next => PT.force mem fun mem => k ⟨mem, next⟩) st
theorem forceS_eq {β : Type} (st : St) (k : St → β) : forceS st k = k st := by
  cases st; simp only [forceS, PT.force_eq]

inductive Rs where
  | norm (fr : Fr) (st : St)
  | exit (id : Nat) (fr : Fr) (st : St)
  | ret (fr : Fr) (st : St)
  | bad

noncomputable def wantG (gb : Nat × Bool) (ops : Array Oper) (fr : Fr) : Option Bool :=
  match (ops[gb.1]?).bind (·.dst) with
    | none => some false
    | some d => (match fget fr (Bp.enc d) with
      | .bool c => some (bsel gb.2 c (Bool.not c))
      | .undef => some false
      | _ => none)
noncomputable def wantedC (ops : Array Oper) (fr : Fr) (o : Oper) : Option Bool :=
  Option.rec (motive := fun _ => Array Oper → Fr → Option Bool) (fun _ _ => some true) (fun gb ops fr => wantG gb ops fr) o.guard ops fr
noncomputable def step1 (P : Program) (call : CallF) (o : Oper) (fr : Fr) (st : St) : OR := Option.rec (motive := fun _ => CallF → Fr → St → OR) (fun _ _ _ => .bad) (fun op call fr st => runOpH op call fr st) (compOpT P o.op) call fr st
noncomputable def stepC (P : Program) (call : CallF) (ops : Array Oper) (o : Oper) (fr : Fr) (st : St) : OR :=
  Option.rec (motive := fun _ => Program → CallF → Oper → Fr → St → OR) (fun _ _ _ _ _ => .bad)
    (fun b P call o fr st => Bool.rec (motive := fun _ => Program → CallF → Oper → Fr → St → OR) (fun _ _ _ _ st => .ok .undef st) (fun P call o fr st => step1 P call o fr st) b P call o fr st) (wantedC ops fr o) P call o fr st
theorem stepC_eq (P : Program) (call : CallF) (ops : Array Oper) (o : Oper) (fr : Fr) (st : St) : stepC P call ops o fr st =
    match wantedC ops fr o with
    | some true => (match compOpT P o.op with | some op => runOp call op fr st | none => .bad)
    | some false => .ok .undef st
    | none => .bad := by
  unfold stepC
  cases wantedC ops fr o with
  | none => rfl
  | some b =>
    cases b with
    | false => rfl
    | true =>
      show step1 P call o fr st = _
      unfold step1
      cases compOpT P o.op with
      | none => rfl
      | some op => exact runOpH_eq op call fr st
theorem wantedC_eq (ops : Array Oper) (fr : Fr) (o : Oper) : wantedC ops fr o =
    match o.guard with
    | none => some true
    | some (g, b) => (match (ops[g]?).bind (·.dst) with
      | none => some false
      | some d => (match fget fr (Bp.enc d) with
        | .bool c => some (bsel b c (Bool.not c))
        | .undef => some false
        | _ => none)) := by
  unfold wantedC
  cases o.guard with
  | none => rfl
  | some gb => rfl

section
variable {P : Program} {ρ : Ren} {st st' : St} {w : World} {v : CV} {fr : Fr} {a : Act} {call : CallF}
theorem wantedC_sound {ops : Array Oper} {o : Oper} {b : Bool} (h : wantedC ops fr o = some b) (hf : FR ρ fr a.tmps) : Region.wanted o (yielded ops a.tmps) = b := by
  rw [wantedC_eq] at h
  unfold Region.wanted
  split at h
  · rename_i hg; cases h; rw [hg]
  · rename_i g want hg
    rw [hg]
    dsimp only
    unfold yielded
    split at h
    · rename_i hd; cases h; rw [hd]; rfl
    · rename_i d hd
      rw [hd, Option.bind_some]
      have hv := hf d
      split at h
      · rename_i c hc
        cases h
        rw [hc] at hv
        cases htd : a.tmps[d]? with
        | none =>
          have : a.tmps.getD d Go.undef = Go.undef := by simp [htd]
          rw [this] at hv; cases hv
        | some x =>
          have : a.tmps.getD d Go.undef = x := by simp [htd]
          rw [this] at hv; cases hv
          dsimp only
          cases c <;> cases want <;> rfl
      · rename_i hc
        cases h
        rw [hc] at hv
        cases htd : a.tmps[d]? with
        | none => rfl
        | some x =>
          have : a.tmps.getD d Go.undef = x := by simp [htd]
          rw [this] at hv; cases hv
          rfl
      · cases h

theorem stepC_sound (hc : CallSound P call) {ops : Array Oper} {o : Oper} (h : stepC P call ops o fr st = .ok v st') (hw : WR ρ st w) (hf : FR ρ fr a.tmps) {next : Act → World → Prop} {Q : Exit → Act → World → Prop}
    (hn : ∀ v' w' ρ', VR ρ' v v' → After ρ st w ρ' st' w' → next (a.put o.dst v') w') :
    if Region.wanted o (yielded ops a.tmps) then o.wp P a w next Q else next (a.put o.dst undef) w := by
  rw [stepC_eq] at h
  split at h
  · rename_i hwt
    rw [if_pos (wantedC_sound hwt hf)]
    split at h
    · rename_i op hop; rw [compOpT_eq] at hop; exact compOp_sound hc hop h hw hf hn
    · cases h
  · rename_i hwt
    rw [if_neg (by rw [wantedC_sound hwt hf]; simp)]
    cases h
    exact hn _ w ρ .undef (After.refl hw)
  · cases h
end

noncomputable def afterOp (n : Nat) (dst : Option Tmp) : CV → Fr → St → (Fr → St → Rs) → Rs :=
  Option.rec (motive := fun _ => CV → Fr → St → (Fr → St → Rs) → Rs) (fun _ fr st k => k fr st)
    (fun d v fr st k => bsel (Nat.ble (Nat.succ d) n) (forceV v fun v => PT.force (fr.put (Bp.enc d) (some v)) fun fr => k fr st) .bad) dst
noncomputable def runOps (P : Program) (call : CallF) (n : Nat) (ops : Array Oper) (l : List Oper) (fr : Fr) (st : St) : Rs :=
  List.rec (motive := fun _ => Program → CallF → Nat → Array Oper → Fr → St → Rs) (fun _ _ _ _ fr st => .norm fr st) (fun o _ ih P call n ops fr st =>
    OR.rec (motive := fun _ => (CV → St → Rs) → Rs) (fun v st k => k v st) (fun _ => .bad) (stepC P call ops o fr st) fun v st => forceS st fun st => afterOp n o.dst v fr st (ih P call n ops)) l P call n ops fr st

/-- What a piece of code comes to. -/
structure Post1 (ρ : Ren) (st : St) (w : World) (n : Nat) (fr' : Fr) (st' : St) (a' : Act) (w' : World) (ρ' : Ren) : Prop where
  fr : FR ρ' fr' a'.tmps
  sz : n ≤ a'.tmps.size
  defers : a'.defers = []
  after : After ρ st w ρ' st' w'
def Post (ρ : Ren) (st : St) (w : World) (n : Nat) (r : Rs) (e : Exit) (a' : Act) (w' : World) : Prop :=
  match r with
  | .norm fr' st' => e = .normal ∧ ∃ ρ', Post1 ρ st w n fr' st' a' w' ρ'
  | .exit id fr' st' => e = .exit id ∧ ∃ ρ', Post1 ρ st w n fr' st' a' w' ρ'
  | .ret fr' st' => e = .ret ∧ ∃ ρ', Post1 ρ st w n fr' st' a' w' ρ'
  | .bad => False

theorem Post.step {ρ ρ1 : Ren} {st st1 : St} {w w1 : World} {n : Nat} {r : Rs} {e : Exit} {a' : Act} {w' : World} (hA : After ρ st w ρ1 st1 w1) (h : Post ρ1 st1 w1 n r e a' w') : Post ρ st w n r e a' w' := by
  cases r <;> simp only [Post] at h ⊢
  · obtain ⟨h1, ρ', h2⟩ := h; exact ⟨h1, ρ', h2.fr, h2.sz, h2.defers, hA.trans h2.after⟩
  · obtain ⟨h1, ρ', h2⟩ := h; exact ⟨h1, ρ', h2.fr, h2.sz, h2.defers, hA.trans h2.after⟩
  · obtain ⟨h1, ρ', h2⟩ := h; exact ⟨h1, ρ', h2.fr, h2.sz, h2.defers, hA.trans h2.after⟩

theorem put_size (a : Act) (d : Option Tmp) (v : Value) : (a.put d v).tmps.size = a.tmps.size := by cases d <;> simp [Act.put]
theorem put_defers (a : Act) (d : Option Tmp) (v : Value) : (a.put d v).defers = a.defers := by cases d <;> rfl

section
variable {P : Program} {call : CallF} {n : Nat} {ops : Array Oper}
theorem runOps_nil (fr : Fr) (st : St) : runOps P call n ops [] fr st = .norm fr st := rfl
theorem runOps_cons (o : Oper) (l : List Oper) (fr : Fr) (st : St) : runOps P call n ops (o :: l) fr st =
    match stepC P call ops o fr st with
    | .ok v st => (match o.dst with | none => runOps P call n ops l fr st | some d => if d < n then runOps P call n ops l (fr.put (Bp.enc d) (some v)) st else .bad)
    | .bad => .bad := by
  have e : runOps P call n ops (o :: l) fr st = OR.rec (motive := fun _ => (CV → St → Rs) → Rs) (fun v st k => k v st) (fun _ => .bad) (stepC P call ops o fr st) fun v st => forceS st fun st => afterOp n o.dst v fr st (runOps P call n ops l) := rfl
  rw [e]
  cases stepC P call ops o fr st with
  | ok v st =>
    dsimp only
    rw [forceS_eq]
    unfold afterOp
    cases o.dst with
    | none => rfl
    | some d => simp only [forceV_eq, PT.force_eq, bsel_eq, Nat.ble_eq, Nat.succ_le_iff]
  | bad => rfl

theorem FR.putO {ρ : Ren} {fr : Fr} {a : Act} (h : FR ρ fr a.tmps) {d : Nat} (hd : d < a.tmps.size) {v : CV} {v' : Value} (hv : VR ρ v v') : FR ρ (fr.put (Bp.enc d) (some v)) (a.put (some d) v').tmps := h.put hd hv

theorem runOps_sound (hc : CallSound P call) (l : List Oper) : ∀ (fr : Fr) (st : St) (ρ : Ren) (a : Act) (w : World), runOps P call n ops l fr st ≠ .bad → WR ρ st w → FR ρ fr a.tmps → n ≤ a.tmps.size → a.defers = [] →
    wpList P ops (Post ρ st w n (runOps P call n ops l fr st)) l a w := by
  induction l with
  | nil => intro fr st ρ a w _ hw hf hn hd; rw [runOps_nil]; exact wpList_nil ⟨rfl, ρ, hf, hn, hd, After.refl hw⟩
  | cons o l ih =>
    intro fr st ρ a w hb hw hf hn hd
    rw [runOps_cons] at hb ⊢
    cases hs : stepC P call ops o fr st with
    | bad => rw [hs] at hb; exact absurd rfl hb
    | ok v st1 =>
      rw [hs] at hb
      refine wpList_step fun K hK => stepC_sound hc hs hw hf fun v' w' ρ' hv hA => hK _ _ ?_
      dsimp only at hb ⊢
      have mono : ∀ {r : Rs} {l : List Oper} {a : Act} {w1 : World}, wpList P ops (Post ρ' st1 w' n r) l a w1 → wpList P ops (Post ρ st w n r) l a w1 := by
        intro r l
        induction l with
        | nil => intro a w1 h; exact Post.step hA h
        | cons o l ih =>
          intro a w1 h
          unfold wpList at h ⊢
          split
          · rename_i hwt; rw [if_pos hwt] at h
            rcases h with h | ⟨h1, a2, w2, h2⟩
            · left
              unfold Oper.wp at h ⊢
              generalize (execOp a.eval o).run P w1 = rr at h ⊢
              cases rr with
              | ok x w2 =>
                cases x <;> simp only [Oper.upon] at h ⊢ <;> first
                  | exact ih h
                  | exact h.mono (fun e w3 he => by cases e <;> first | exact ih he | exact Post.step hA he | (obtain ⟨a4, w4, h4⟩ := he; exact ⟨a4, w4, Post.step hA h4⟩))
                  | exact h.mono (fun _ _ he => ih he)
              | halt x w2 => cases x <;> simp only [Oper.upon] at h ⊢ <;> exact Post.step hA h
            · exact .inr ⟨h1, a2, w2, Post.step hA h2⟩
          · rename_i hwt; rw [if_neg hwt] at h; exact ih h
      cases hdst : o.dst with
      | none =>
        rw [hdst] at hb
        refine mono (ih fr st1 ρ' (a.put none v') w' hb hA.wr (hf.mono hA.ext) hn hd)
      | some d =>
        rw [hdst] at hb
        dsimp only at hb ⊢
        split at hb
        · rename_i hdn
          rw [if_pos hdn]
          exact mono (ih _ st1 ρ' (a.put (some d) v') w' hb hA.wr ((hf.mono hA.ext).putO (Nat.lt_of_lt_of_le hdn hn) hv) (by rw [put_size]; exact hn) (by rw [put_defers]; exact hd))
        · exact absurd rfl hb
end
end Sim

/- Sim, part 21: code, and calls. -/
namespace Sim
open Go

abbrev DrawF := CallF → Nat → Array Oper → Fr → St → Rs
noncomputable def thenC (r : Rs) (k : Fr → St → Rs) : Rs :=
  Rs.rec (motive := fun _ => (Fr → St → Rs) → Rs) (fun fr st k => k fr st) (fun id fr st _ => .exit id fr st) (fun fr st _ => .ret fr st) (fun _ => .bad) r k
noncomputable def inBlockC (id : Nat) (r : Rs) : Rs :=
  Rs.rec (motive := fun _ => Nat → Rs) (fun fr st _ => .norm fr st) (fun i fr st id => bsel (Nat.beq i id) (.norm fr st) (.exit i fr st)) (fun fr st _ => .ret fr st) (fun _ => .bad) r id
noncomputable def loopC (body : Fr → St → Rs) (fuel : Nat) (fr : Fr) (st : St) : Rs :=
  Nat.rec (motive := fun _ => (Fr → St → Rs) → Fr → St → Rs) (fun _ _ _ => .bad) (fun _ ih body fr st => thenC (body fr st) (ih body)) fuel body fr st
noncomputable def condC (c : Operand) (x y : Fr → St → Rs) (fr : Fr) (st : St) : Rs :=
  match cArg c with | some c => (match ev fr c with | .bool t => bsel t (x fr st) (y fr st) | _ => .bad) | none => .bad

abbrev ExecF := Program → CallF → DrawF → Nat → Fr → St → Rs
noncomputable def exec (P : Program) (call : CallF) (dr : DrawF) (n : Nat) (c : Code) (fr : Fr) (st : St) : Rs :=
  Code.rec (motive := fun _ => ExecF)
    (fun _ _ _ _ fr st => .norm fr st)
    (fun _ ops draw P call dr n fr st => bsel draw (dr call n ops fr st) (runOps P call n ops ops.toList fr st))
    (fun _ _ x y P call dr n fr st => thenC (x P call dr n fr st) (y P call dr n))
    (fun c _ _ x y P call dr n fr st => condC c (x P call dr n) (y P call dr n) fr st)
    (fun id _ x P call dr n fr st => inBlockC id (x P call dr n fr st))
    (fun _ x P call dr n fr st => loopC (x P call dr n) 1000000 fr st)
    (fun _ _ _ _ _ _ _ _ _ _ _ _ => .bad)
    (fun id _ _ _ _ fr st => .exit id fr st)
    (fun _ x P call dr n fr st => x P call dr n fr st)
    (fun _ _ _ _ _ fr st => .norm fr st)
    (fun _ _ _ _ _ _ _ => .bad)
    (fun _ _ _ _ fr st => .ret fr st)
    (fun _ _ _ _ _ _ _ => .bad) c P call dr n fr st

def DrawSound (P : Program) (dr : DrawF) : Prop :=
  ∀ (call : CallF) (n : Nat), CallSound P call → ∀ (id : Nat) (ops : Array Oper) (fr : Fr) (st : St) (ρ : Ren) (a : Act) (w : World), dr call n ops fr st ≠ .bad → WR ρ st w → FR ρ fr a.tmps → n ≤ a.tmps.size → a.defers = [] →
    (Code.region id ops true).wp P (Post ρ st w n (dr call n ops fr st)) a w

section
variable {P : Program} {call : CallF} {dr : DrawF} {n : Nat}
/-- A piece of code does what its clean run does. -/
def Ok (P : Program) (n : Nat) (c : Code) (f : Fr → St → Rs) : Prop :=
  ∀ (fr : Fr) (st : St) (ρ : Ren) (a : Act) (w : World), f fr st ≠ .bad → WR ρ st w → FR ρ fr a.tmps → n ≤ a.tmps.size → a.defers = [] → c.wp P (Post ρ st w n (f fr st)) a w

theorem thenC_ok {x y : Code} {f g : Fr → St → Rs} (hx : Ok P n x f) (hy : Ok P n y g) : Ok P n (.seq x y) (fun fr st => thenC (f fr st) g) := by
  intro fr st ρ a w hb hw hf hn hd
  have h1 := hx fr st ρ a w
  refine wp_seq ?_
  dsimp only at hb ⊢
  generalize f fr st = r at hb h1 ⊢
  cases r with
  | bad => exact absurd rfl hb
  | norm fr1 st1 =>
    refine wp_mono (h1 (by simp) hw hf hn hd) ?_
    rintro e a1 w1 ⟨rfl, ρ1, hp⟩
    exact wp_mono (hy fr1 st1 ρ1 a1 w1 hb hp.after.wr hp.fr hp.sz hp.defers) (fun e a w h => Post.step hp.after h)
  | exit id fr1 st1 =>
    refine wp_mono (h1 (by simp) hw hf hn hd) ?_
    rintro e a1 w1 ⟨rfl, hp⟩
    exact ⟨rfl, hp⟩
  | ret fr1 st1 =>
    refine wp_mono (h1 (by simp) hw hf hn hd) ?_
    rintro e a1 w1 ⟨rfl, hp⟩
    exact ⟨rfl, hp⟩

theorem inBlockC_ok {x : Code} {f : Fr → St → Rs} {id : Nat} (hx : Ok P n x f) : Ok P n (.block id x) (fun fr st => inBlockC id (f fr st)) := by
  intro fr st ρ a w hb hw hf hn hd
  have h1 := hx fr st ρ a w
  refine wp_block ?_
  dsimp only at hb ⊢
  generalize f fr st = r at hb h1 ⊢
  cases r with
  | bad => exact absurd rfl hb
  | norm fr1 st1 =>
    refine wp_mono (h1 (by simp) hw hf hn hd) ?_
    rintro e a1 w1 ⟨rfl, hp⟩
    exact ⟨rfl, hp⟩
  | exit i fr1 st1 =>
    refine wp_mono (h1 (by simp) hw hf hn hd) ?_
    rintro e a1 w1 ⟨rfl, hp⟩
    have e0 : inBlockC id (.exit i fr1 st1) = bsel (Nat.beq i id) (.norm fr1 st1) (.exit i fr1 st1) := rfl
    rw [e0]
    simp only [bsel_eq, Nat.beq_eq, Exit.inBlock]
    by_cases hi : i = id
    · simp only [if_pos hi]; exact ⟨rfl, hp⟩
    · simp only [if_neg hi]; exact ⟨rfl, hp⟩
  | ret fr1 st1 =>
    refine wp_mono (h1 (by simp) hw hf hn hd) ?_
    rintro e a1 w1 ⟨rfl, hp⟩
    exact ⟨rfl, hp⟩

theorem loopC_rounds {x : Code} {f : Fr → St → Rs} (hx : Ok P n x f) : ∀ (k : Nat) (fr : Fr) (st : St) (ρ : Ren) (a : Act) (w : World), loopC f k fr st ≠ .bad → WR ρ st w → FR ρ fr a.tmps → n ≤ a.tmps.size → a.defers = [] →
    Code.rounds P x (Post ρ st w n (loopC f k fr st)) k a w := by
  intro k
  have mono : ∀ {Q Q' : Exit → Act → World → Prop} (h : ∀ e a w, Q e a w → Q' e a w) (k : Nat) (a : Act) (w : World), Code.rounds P x Q k a w → Code.rounds P x Q' k a w := by
    intro Q Q' h k
    induction k with
    | zero => intro a w hh; exact hh
    | succ k ih =>
      intro a w hh
      rw [rounds_succ] at hh ⊢
      refine wp_mono hh ?_
      intro e a w hq
      cases e <;> first | exact ih _ _ hq | exact h _ _ _ hq
  induction k with
  | zero => intro fr st ρ a w hb; exact absurd rfl hb
  | succ k ih =>
    intro fr st ρ a w hb hw hf hn hd
    have e : loopC f (k + 1) fr st = thenC (f fr st) (loopC f k) := rfl
    rw [e] at hb ⊢
    rw [rounds_succ]
    cases hr : f fr st with
    | bad => rw [hr] at hb; exact absurd rfl hb
    | norm fr1 st1 =>
      have h1 := hx fr st ρ a w (by rw [hr]; simp) hw hf hn hd
      rw [hr] at h1 hb
      refine wp_mono h1 ?_
      rintro e a1 w1 ⟨rfl, ρ1, hp⟩
      exact mono (fun e a w h => Post.step hp.after h) k a1 w1 (ih fr1 st1 ρ1 a1 w1 hb hp.after.wr hp.fr hp.sz hp.defers)
    | exit id fr1 st1 =>
      have h1 := hx fr st ρ a w (by rw [hr]; simp) hw hf hn hd
      rw [hr] at h1
      refine wp_mono h1 ?_
      rintro e a1 w1 ⟨rfl, hp⟩
      exact ⟨rfl, hp⟩
    | ret fr1 st1 =>
      have h1 := hx fr st ρ a w (by rw [hr]; simp) hw hf hn hd
      rw [hr] at h1
      refine wp_mono h1 ?_
      rintro e a1 w1 ⟨rfl, hp⟩
      exact ⟨rfl, hp⟩

theorem exec_ok (hc : CallSound P call) (hdr : DrawSound P dr) (c : Code) : Ok P n c (exec P call dr n c) := by
  induction c with
  | skip => intro fr st ρ a w _ hw hf hn hd; exact wp_skip ⟨rfl, ρ, hf, hn, hd, After.refl hw⟩
  | region id ops draw =>
    intro fr st ρ a w hb hw hf hn hd
    cases draw with
    | true => exact hdr call n hc id ops fr st ρ a w hb hw hf hn hd
    | false => exact wp_region_list (runOps_sound hc ops.toList fr st ρ a w hb hw hf hn hd)
  | seq x y hx hy => exact thenC_ok hx hy
  | cond c x y hx hy =>
    intro fr st ρ a w hb hw hf hn hd
    have e : exec P call dr n (.cond c x y) fr st = condC c (exec P call dr n x) (exec P call dr n y) fr st := rfl
    rw [e] at hb ⊢
    unfold condC at hb ⊢
    cases hcc : cArg c with
    | none => rw [hcc] at hb; exact absurd rfl hb
    | some c' =>
      rw [hcc] at hb
      have hev := ev_sound hcc hf
      dsimp only at hb ⊢
      generalize hx' : ev fr c' = cv at hb hev ⊢
      cases cv with
      | bool t =>
        generalize hv' : a.eval c = cv' at hev
        cases hev
        cases t with
        | true => exact wp_cond_true hv' (hx fr st ρ a w hb hw hf hn hd)
        | false => exact wp_cond_false hv' (hy fr st ρ a w hb hw hf hn hd)
      | _ => exact absurd rfl hb
  | block id x hx => exact inBlockC_ok hx
  | loop x hx => intro fr st ρ a w hb hw hf hn hd; exact wp_loop_rounds 1000000 (loopC_rounds hx 1000000 fr st ρ a w hb hw hf hn hd)
  | rangeFunc f ps x y hx hy => intro fr st ρ a w hb; exact absurd rfl hb
  | exit id => intro fr st ρ a w _ hw hf hn hd; exact wp_exit ⟨rfl, ρ, hf, hn, hd, After.refl hw⟩
  | scope x hx =>
    intro fr st ρ a w hb hw hf hn hd
    refine wp_scope_straight (wp_mono (hx fr st ρ a w hb hw hf hn hd) ?_)
    intro e a1 w1 h
    have e0 : exec P call dr n (.scope x) fr st = exec P call dr n x fr st := rfl
    rw [e0]
    cases e with
    | goto l =>
      unfold Post at h
      split at h
      · exact absurd h.1 (by simp)
      · exact absurd h.1 (by simp)
      · exact absurd h.1 (by simp)
      · exact h.elim
    | _ => exact h
  | label l => intro fr st ρ a w _ hw hf hn hd; exact wp_label ⟨rfl, ρ, hf, hn, hd, After.refl hw⟩
  | goto l => intro fr st ρ a w hb; exact absurd rfl hb
  | ret => intro fr st ρ a w _ hw hf hn hd; exact wp_ret ⟨rfl, ρ, hf, hn, hd, After.refl hw⟩
  | refuse y => intro fr st ρ a w hb; exact absurd rfl hb
end

/- frames -/
noncomputable def frameFrom (args : List CV) : Bp → Fr → Fr :=
  List.rec (motive := fun _ => Bp → Fr → Fr) (fun _ fr => fr) (fun v _ ih p fr => forceV v fun v => PT.force (fr.put p (some v)) fun fr => forceB p.succ fun p => ih p fr) args
noncomputable def frameOf (args : List CV) : Fr := frameFrom args .e .nil
theorem frameFrom_cons (v : CV) (l : List CV) (p : Bp) (fr : Fr) : frameFrom (v :: l) p fr = frameFrom l p.succ (fr.put p (some v)) := by
  have e : frameFrom (v :: l) p fr = forceV v fun v => PT.force (fr.put p (some v)) fun fr => forceB p.succ fun p => frameFrom l p fr := rfl
  rw [e, forceV_eq, PT.force_eq, forceB_eq]
theorem fget_frameFrom : ∀ (l : List CV) (p : Bp) (fr : Fr) (q : Bp), fget (frameFrom l p fr) q = if p.dec ≤ q.dec ∧ q.dec < p.dec + l.length then l.getD (q.dec - p.dec) .undef else fget fr q := by
  intro l
  induction l with
  | nil => intro p fr q; rw [if_neg (by simp)]; rfl
  | cons v l ih =>
    intro p fr q
    rw [frameFrom_cons, ih, Bp.dec_succ]
    by_cases h1 : q.dec = p.dec
    · have := Bp.dec_inj _ _ h1; subst this
      rw [if_neg (by omega), fget_put_same, if_pos (by simp)]
      simp
    · rw [fget_put_ne _ _ _ _ (fun e => h1 (by rw [e]))]
      by_cases h2 : p.dec + 1 ≤ q.dec ∧ q.dec < p.dec + 1 + l.length
      · rw [if_pos h2, if_pos (by simp only [List.length_cons]; omega)]
        have : q.dec - p.dec = (q.dec - (p.dec + 1)) + 1 := by omega
        rw [this]; simp
      · rw [if_neg h2, if_neg (by simp only [List.length_cons]; omega)]
theorem frameOf_FR {ρ : Ren} {args : List CV} {args' : Array Value} (h : VRs ρ args args'.toList) (k : Nat) : FR ρ (frameOf args) (args' ++ Array.replicate k undef) := by
  intro t
  have hlen : args.length = args'.size := by rw [h.len]; simp
  unfold frameOf
  rw [fget_frameFrom, Bp.dec_enc]
  have e0 : Bp.e.dec = 0 := rfl
  rw [e0]
  by_cases ht : t < args.length
  · rw [if_pos (by omega)]
    have h1 : args[t]? = some args[t] := by simp [ht]
    have h2 : args'.toList[t]? = some (args'[t]'(by omega)) := by simp
    have h3 := h.at' t _ _ h1 h2
    have h4 : (args' ++ Array.replicate k undef).getD t Go.undef = args'[t]'(by omega) := by
      simp [Array.getElem?_append, show t < args'.size by omega]
    rw [h4]
    simpa [ht] using h3
  · rw [if_neg (by omega)]
    have h4 : (args' ++ Array.replicate k undef).getD t Go.undef = Go.undef := by
      simp only [Array.getD_eq_getD_getElem?, Array.getElem?_append, if_neg (show ¬ t < args'.size by omega), Array.getElem?_replicate]
      split <;> rfl
    rw [h4]
    exact .undef

/- results -/
noncomputable def resC1 (P : Program) (fr : Fr) (st : St) (r : ResultVar) : Option CV :=
  match r with
  | .tmp t => some (fget fr (Bp.enc t))
  | .cell a t => (match undT P t, infoT P t with
    | some u, some i => (match bsel (aggOf u) (pLoadN i.size (fget fr (Bp.enc a)) st) (pLoad1 (fget fr (Bp.enc a)) st) with | .ok v _ => some v | .bad => none)
    | _, _ => none)
noncomputable def resL (P : Program) (fr : Fr) (st : St) (l : List ResultVar) : Option (List CV) :=
  List.rec (some []) (fun r _ ih => match resC1 P fr st r, ih with | some v, some l => some (v :: l) | _, _ => none) l
noncomputable def resC (P : Program) (fr : Fr) (st : St) (l : List ResultVar) : OR :=
  match resL P fr st l with
  | some [] => .ok .undef st
  | some [v] => .ok v st
  | some l => (listS l).force fun s => .ok (.tuple s) st
  | none => .bad
noncomputable def callableT (P : Program) (f : Nat) : Bool := match funcT P f with | some fn => Bool.and fn.body.isSome (!(fn.name == "runtime.NumGoroutine")) | none => false
theorem callableT_eq {P : Program} {f : Nat} (h : callableT P f = true) : callable P f = true := by
  unfold callableT at h
  rw [funcT_eq] at h
  unfold callable
  split at h
  · rename_i fn hfn; rw [hfn]; simp only [Bool.and_eq_true] at h ⊢; exact ⟨h.2, h.1⟩
  · cases h
/-- A call: the frame, the code, the results. -/
noncomputable def enterC (P : Program) (dr : DrawF) (call : CallF) (f : Nat) (args : List CV) (st : St) : OR :=
  bsel (callableT P f) (match funcT P f with
    | some fn => (match fn.body with
      | some c => Rs.rec (fun fr st => resC P fr st fn.results.toList) (fun _ _ _ => .bad) (fun fr st => resC P fr st fn.results.toList) .bad (exec P call dr fn.ntmps c (frameOf args) st)
      | none => .bad)
    | none => .bad) .bad

section
variable {P : Program} {call : CallF} {dr : DrawF} {ρ : Ren} {st st' : St} {w : World} {fr : Fr} {a : Act} {v : CV}
theorem load1_var {t : TypeId} {p : CV} {p' : Value} (h : pLoad1 p st = .ok v st') (hw : WR ρ st w) (hp : VR ρ p p') (ht : (isAgg t).run P w = .ok false w) :
    ∃ v', (do loadVar t (← asAddr p') : Sem Value).run P w = .ok v' w ∧ VR ρ v v' := by
  unfold pLoad1 at h
  split at h
  · rename_i b off
    split at h
    · rename_i s t' g hm
      cases hx : s.get byteV off with
      | none => rw [hx] at h; cases h
      | some x =>
        rw [hx] at h; cases h
        cases hp with
        | ptr _ _ r sz hr =>
          obtain ⟨c, lo, hi, e1, e2, e3, e4, e5⟩ := hw.row hm hr
          obtain ⟨x', g1, g2⟩ := row_get e4 hx
          refine ⟨_, ?_, g2⟩
          simp [asAddr, loadVar, ht, run_load_row P w r off c t' (lo, hi) x' e1 (take_get g1), -run_load]
    · cases h
  · cases h
theorem loadN_var {t : TypeId} {n : Nat} {p : CV} {p' : Value} (h : pLoadN n p st = .ok v st') (hw : WR ρ st w) (hp : VR ρ p p') (ht : (isAgg t).run P w = .ok true w)
    (hn : (Go.sizeOf t).run P w = .ok n w) : ∃ v', (do loadVar t (← asAddr p') : Sem Value).run P w = .ok v' w ∧ VR ρ v v' := by
  unfold pLoadN at h
  split at h
  · rename_i b off
    split at h
    · rename_i s t' g hm
      cases hx : s.extract off n with
      | none => rw [hx] at h; cases h
      | some x =>
        rw [hx] at h; cases h
        cases hp with
        | ptr _ _ r sz hr =>
          obtain ⟨c, lo, hi, e1, e2, e3, e4, e5⟩ := hw.row hm hr
          obtain ⟨g1, g2⟩ := Segs.extract_some hx
          refine ⟨.agg ((c.toList.drop off).take n).toArray, ?_, (VR.agg' ?_)⟩
          · simp [asAddr, loadVar, ht, hn, run_loadCells_row P w r off n c t' (lo, hi) e1 (by omega)]
          · have := g2 byteV
            rw [show row x = ((row s).drop off).take n from this]
            have e : (c.toList.drop off).take n = ((c.toList.take s.size).drop off).take n := by
              rw [List.drop_take, List.take_take, Nat.min_eq_left (by omega)]
            rw [e]; exact (e4.drop off).take n
    · cases h
  · cases h
def resSem (a : Act) (r : ResultVar) : Sem Value := match r with | .tmp t => pure (a.tmps.getD t undef) | .cell ad t => do loadVar t (← asAddr (a.tmps.getD ad undef))
theorem resC1_sound {r : ResultVar} {v : CV} (h : resC1 P fr st r = some v) (hw : WR ρ st w) (hf : FR ρ fr a.tmps) :
    ∃ v', (resSem a r).run P w = .ok v' w ∧ VR ρ v v' := by
  unfold resC1 at h
  split at h
  · rename_i t; cases h; exact ⟨_, rfl, hf t⟩
  · rename_i ad t
    rw [undT_eq, infoT_eq] at h
    split at h
    · rename_i u i hu hi
      have hp := hf ad
      rw [bsel_eq] at h
      by_cases ha : aggOf u = true
      · rw [if_pos ha] at h
        split at h
        · rename_i v1 st1 hh
          cases h
          exact loadN_var (t := t) hh hw hp (by rw [isAgg_run hu, ha]) (sizeOf_run hi)
        · cases h
      · rw [if_neg ha] at h
        split at h
        · rename_i v1 st1 hh
          cases h
          exact load1_var (t := t) hh hw hp (by rw [isAgg_run hu, show aggOf u = false by simpa using ha])
        · cases h
    · cases h
theorem resL_sound : ∀ {l : List ResultVar} {vs : List CV}, resL P fr st l = some vs → WR ρ st w → FR ρ fr a.tmps → ∃ vs', (l.mapM (resSem a)).run P w = .ok vs' w ∧ VRs ρ vs vs' := by
  intro l
  induction l with
  | nil => intro vs h _ _; cases h; exact ⟨[], rfl, VRs.nil ρ⟩
  | cons r l ih =>
    intro vs h hw hf
    have e : resL P fr st (r :: l) = (match resC1 P fr st r, resL P fr st l with | some v, some l => some (v :: l) | _, _ => none) := rfl
    rw [e] at h
    split at h
    · rename_i v l1 h1 h2
      cases h
      obtain ⟨v', g1, g2⟩ := resC1_sound h1 hw hf
      obtain ⟨vs', g3, g4⟩ := ih h2 hw hf
      exact ⟨v' :: vs', by simp [List.mapM_cons, g1, g3], VRs.cons g2 g4⟩
    · cases h
theorem resC_sound {fn : Func} (h : resC P fr st fn.results.toList = .ok v st') (hw : WR ρ st w) (hf : FR ρ fr a.tmps) : st' = st ∧ ∃ v', (results fn a.tmps).run P w = .ok v' w ∧ VR ρ v v' := by
  unfold resC at h
  have e : ∀ {vs'}, (fn.results.toList.mapM (resSem a)).run P w = .ok vs' w → (results fn a.tmps).run P w = .ok (if h : vs'.toArray.size = 1 then vs'.toArray[0] else .tuple vs'.toArray) w := by
    intro vs' hv
    have e1 : results fn a.tmps = (do let vs ← fn.results.mapM (resSem a); pure (if h : vs.size = 1 then vs[0] else .tuple vs)) := rfl
    rw [e1, Array.mapM_eq_mapM_toList]
    simp [hv]
  split at h
  · rename_i hl
    cases h
    obtain ⟨vs', g1, g2⟩ := resL_sound hl hw hf
    have : vs' = [] := by have := g2.len; simpa using this.symm
    subst this
    exact ⟨rfl, _, e g1, by simpa using VR.undef⟩
  · rename_i u hl
    cases h
    obtain ⟨vs', g1, g2⟩ := resL_sound hl hw hf
    obtain ⟨u', t', rfl, g3, g4⟩ := g2.inv
    have : t' = [] := by have := g4.len; simpa using this.symm
    subst this
    exact ⟨rfl, _, e g1, by simpa using g3⟩
  · rename_i l h0 h1 hl
    rw [Segs.force_eq] at h
    cases h
    obtain ⟨vs', g1, g2⟩ := resL_sound hl hw hf
    refine ⟨rfl, _, e g1, ?_⟩
    have hlen : vs'.toArray.size ≠ 1 := by
      intro hh
      have := g2.len
      simp only [List.size_toArray] at hh
      rw [hh] at this
      obtain ⟨x, rfl⟩ := List.length_eq_one_iff.1 this
      exact h1 x rfl
    rw [dif_neg hlen]
    exact VR.tuple _ _ (by rw [row_listS]; exact g2.len) (by rw [row_listS]; exact g2.at')
  · cases h

theorem enterC_sound (hc : CallSound P call) (hdr : DrawSound P dr) {f : Nat} {args : List CV} (h : enterC P dr call f args st = .ok v st') : callable P f = true ∧ CallOK P f args st v st' := by
  unfold enterC at h
  rw [bsel_eq] at h
  split at h
  · rename_i hcall
    refine ⟨callableT_eq hcall, ?_⟩
    rw [funcT_eq] at h
    split at h
    · rename_i fn hfn
      split at h
      · rename_i c hb
        intro ρ w args' hw ha
        refine calls_of_wp hfn hb ?_
        have hok := exec_ok (n := fn.ntmps) hc hdr c (frameOf args) st ρ { tmps := args' ++ Array.replicate (fn.ntmps - args'.size) undef, defers := [] } w
        generalize exec P call dr fn.ntmps c (frameOf args) st = r at h hok
        have hok := hok (by intro e; subst e; cases h) hw (frameOf_FR ha _) (by simp; omega) rfl
        cases r with
        | norm fr1 st1 =>
          refine wp_mono hok ?_
          rintro e a1 w1 ⟨rfl, ρ1, hp⟩
          obtain ⟨rfl, v', g1, g2⟩ := resC_sound h hp.after.wr hp.fr
          exact ⟨hp.defers, v', g1, v', ρ1, rfl, g2, hp.after⟩
        | ret fr1 st1 =>
          refine wp_mono hok ?_
          rintro e a1 w1 ⟨rfl, ρ1, hp⟩
          obtain ⟨rfl, v', g1, g2⟩ := resC_sound h hp.after.wr hp.fr
          exact ⟨hp.defers, v', g1, v', ρ1, rfl, g2, hp.after⟩
        | exit id fr1 st1 => cases h
        | bad => cases h
      · cases h
    · cases h
  · cases h
end

/- calls, so deep -/
abbrev IntrF := Nat → List CV → St → Option OR
def IntrSound (P : Program) (I : IntrF) : Prop := ∀ f args st v st', I f args st = some (.ok v st') → CallOut P f args st v st'
noncomputable def runF (P : Program) (dr : DrawF) (I : IntrF) (fuel : Nat) : CallF :=
  Nat.rec (motive := fun _ => CallF) (fun _ _ _ => .bad) (fun _ ih f args st => Option.rec (enterC P dr ih f args st) (fun r => r) (I f args st)) fuel
theorem runF_sound {P : Program} {dr : DrawF} {I : IntrF} (hdr : DrawSound P dr) (hI : IntrSound P I) : ∀ fuel, CallSound P (runF P dr I fuel) := by
  intro fuel
  induction fuel with
  | zero => intro f args st v st' h; cases h
  | succ fuel ih =>
    intro f args st v st' h
    have e : runF P dr I (fuel + 1) f args st = Option.rec (enterC P dr (runF P dr I fuel) f args st) (fun r => r) (I f args st) := rfl
    rw [e] at h
    cases hI' : I f args st with
    | none => rw [hI'] at h; exact .inl (enterC_sound ih hdr h)
    | some r => rw [hI'] at h; exact hI f args st v st' (by rw [hI']; exact congrArg some h)
end Sim

/- Sim, part 22: what an operation looks at; which leave the memory; equal values. -/
namespace Sim
open Go

/- equal clean values -/
noncomputable def bpEq (p q : Bp) : Bool := Nat.beq p.dec q.dec
theorem bpEq_iff {p q : Bp} : bpEq p q = true ↔ p = q := by
  unfold bpEq; rw [Nat.beq_eq]; exact ⟨Bp.dec_inj p q, fun h => by rw [h]⟩
noncomputable def boolEq (a b : Bool) : Bool := bsel a b (Bool.not b)
theorem boolEq_iff {a b : Bool} : boolEq a b = true ↔ a = b := by cases a <;> cases b <;> simp [boolEq]
noncomputable def scalE (x y : CV) : Bool :=
  match x, y with
  | .undef, .undef => true
  | .bool a, .bool b => boolEq a b
  | .int j a, .int k b => Bool.and (kbeq j k) (zeq a b)
  | .str n a, .str m b => Bool.and (Nat.beq n m) (Nat.beq a b)
  | .nilptr, .nilptr => true
  | .ptr b o, .ptr c p => Bool.and (bpEq b c) (Nat.beq o p)
  | .nilslice, .nilslice => true
  | .slice b o l c g, .slice b' o' l' c' g' => Bool.and (bpEq b b') (Bool.and (Nat.beq o o') (Bool.and (Nat.beq l l') (Bool.and (Nat.beq c c') (Nat.beq g g'))))
  | .nilmap, .nilmap => true
  | .map b, .map c => bpEq b c
  | .nilfunc, .nilfunc => true
  | .niliface, .niliface => true
  | _, _ => false
theorem scalE_sound {x y : CV} (h : scalE x y = true) : x = y := by
  unfold scalE at h
  split at h <;> (try simp only [Bool.and_eq_true, Nat.beq_eq, boolEq_iff, bpEq_iff, kbeq_iff, zeq_iff] at h)
  all_goals first
    | rfl
    | (cases h; done)
    | (subst h; rfl)
    | (obtain ⟨rfl, rfl⟩ := h; rfl)
    | (obtain ⟨rfl, rfl, rfl, rfl, rfl⟩ := h; rfl)
noncomputable def scalE1 (x y : CV) : Bool := match x, y with | .iface t v, .iface u w => Bool.and (Nat.beq t u) (scalE v w) | x, y => scalE x y
theorem scalE1_sound {x y : CV} (h : scalE1 x y = true) : x = y := by
  unfold scalE1 at h
  split at h
  · simp only [Bool.and_eq_true, Nat.beq_eq] at h
    rw [h.1, scalE_sound h.2]
  · exact scalE_sound h
noncomputable def segE (s : Segs CV) : Segs CV → Bool :=
  Segs.rec (motive := fun _ => Segs CV → Bool) (fun t => match t with | .nil => true | _ => false)
    (fun v _ ih t => match t with | .one u r => Bool.and (scalE1 v u) (ih r) | _ => false)
    (fun n a _ ih t => match t with | .bytes m b r => Bool.and (Bool.and (Nat.beq n m) (Nat.beq a b)) (ih r) | _ => false) s
theorem segE_sound : ∀ {s t : Segs CV}, segE s t = true → s = t := by
  intro s
  induction s with
  | nil => intro t h; cases t <;> first | rfl | (exact absurd h (by simp [segE]))
  | one v r ih =>
    intro t h
    cases t with
    | one u r' =>
      have h : Bool.and (scalE1 v u) (segE r r') = true := h
      simp only [Bool.and_eq_true] at h
      rw [scalE1_sound h.1, ih h.2]
    | nil => exact absurd h (by simp [segE])
    | bytes n a r' => exact absurd h (by simp [segE])
  | bytes n a r ih =>
    intro t h
    cases t with
    | bytes m b r' =>
      have h : Bool.and (Bool.and (Nat.beq n m) (Nat.beq a b)) (segE r r') = true := h
      simp only [Bool.and_eq_true, Nat.beq_eq] at h
      rw [h.1.1, h.1.2, ih h.2]
    | nil => exact absurd h (by simp [segE])
    | one u r' => exact absurd h (by simp [segE])
noncomputable def eqV (x y : CV) : Bool :=
  match x, y with
  | .agg s, .agg t => segE s t
  | .tuple s, .tuple t => segE s t
  | .func (.func f) s c, .func (.func g) s' c' => Bool.and (Nat.beq f g) (Bool.and (segE s s') (segE c c'))
  | x, y => scalE1 x y
theorem eqV_sound {x y : CV} (h : eqV x y = true) : x = y := by
  unfold eqV at h
  split at h
  · rw [segE_sound h]
  · rw [segE_sound h]
  · simp only [Bool.and_eq_true, Nat.beq_eq] at h
    rw [h.1, segE_sound h.2.1, segE_sound h.2.2]
  · exact scalE1_sound h

/- operands -/
def optArg (x : Option CArg) : List CArg := match x with | some x => [x] | none => []
def COp.args : COp → List CArg
  | .mov x | .nil x | .un _ x | .conv _ x | .s2ap _ x | .iface _ x | .fieldAddr _ x | .field _ _ _ x | .extract x _ | .len _ x | .clear _ x | .box _ x | .load1 x | .loadN _ x => [x]
  | .pick c a b => [c, a, b]
  | .new _ _ => []
  | .build _ ps => ps.map (·.2.2)
  | .buildSlice _ _ _ ps => ps.map (·.2.2)
  | .store _ a x | .bin _ _ _ a x | .idxArr _ _ a x | .idxSl _ a x | .idxStr a x | .idxAgg _ _ _ a x | .lookup _ _ _ a x | .mapEntry _ _ a x | .append _ _ _ _ _ a x | .copy _ _ a x | .minmax _ a x | .delete _ a x => [a, x]
  | .func _ f c => f ++ c
  | .mkMap r => optArg r
  | .mkSlice _ _ _ l c => [l, c]
  | .sliceStr x lo hi | .sliceSl _ x lo hi | .sliceArr _ _ x lo hi => x :: (optArg lo ++ optArg hi)
  | .slice3 _ x lo hi mx => x :: hi :: mx :: optArg lo
  | .mapUpdate _ m k x | .entryStore m k x => [m, k, x]
  | .call _ args => args
  | .callv f args => f :: args

theorem evL_congr {fr fr' : Fr} : ∀ {l : List CArg}, (∀ x ∈ l, ev fr x = ev fr' x) → evL fr l = evL fr' l := by
  intro l
  induction l with
  | nil => intro _; rfl
  | cons x l ih =>
    intro h
    show ev fr x :: evL fr l = ev fr' x :: evL fr' l
    rw [h x (by simp), ih fun y hy => h y (by simp [hy])]
theorem evP_congr {fr fr' : Fr} : ∀ {l : List PartA}, (∀ x ∈ l.map (·.2.2), ev fr x = ev fr' x) → evP fr l = evP fr' l := by
  intro l
  induction l with
  | nil => intro _; rfl
  | cons p l ih =>
    intro h
    show (p.1, p.2.1, ev fr p.2.2) :: evP fr l = (p.1, p.2.1, ev fr' p.2.2) :: evP fr' l
    rw [h p.2.2 (by simp), ih fun y hy => h y (by simp at hy ⊢; exact .inr hy)]
theorem evO_congr {fr fr' : Fr} {x : Option CArg} (h : ∀ y ∈ optArg x, ev fr y = ev fr' y) : evO fr x = evO fr' x := by
  cases x with
  | none => rfl
  | some x => show some (ev fr x) = some (ev fr' x); rw [h x (by simp [optArg])]
theorem runOp_congr {call : CallF} {op : COp} {fr fr' : Fr} {st : St} (h : ∀ x ∈ op.args, ev fr x = ev fr' x) : runOp call op fr st = runOp call op fr' st := by
  cases op <;> simp only [COp.args, List.mem_cons, List.mem_append, List.not_mem_nil, or_false, forall_eq_or_imp, forall_eq] at h <;> simp only [runOp]
  all_goals first
    | rfl
    | rw [h]
    | rw [h.1, h.2]
    | rw [h.1, h.2.1, h.2.2]
    | rw [evL_congr h]
    | rw [evP_congr h]
    | rw [evO_congr h]
    | rw [h.1, evL_congr h.2]
    | rw [evL_congr fun x hx => h x (.inl hx), evL_congr fun x hx => h x (.inr hx)]
    | rw [h.1, evO_congr fun x hx => h.2 x (.inl hx), evO_congr fun x hx => h.2 x (.inr hx)]
    | rw [h.1, h.2.1, h.2.2.1, evO_congr h.2.2.2]

/- still operations -/
noncomputable def COp.still : COp → Bool
  | .mov _ | .pick .. | .load1 _ | .loadN .. | .nil _ | .un .. | .s2ap .. | .iface .. | .func .. | .sliceStr .. | .sliceSl .. | .slice3 .. | .sliceArr .. | .fieldAddr .. | .field .. => true
  | .idxArr .. | .idxSl .. | .idxStr .. | .idxAgg .. | .lookup .. | .extract .. | .len .. | .minmax .. | .bin .. | .build .. => true
  | .conv c _ => (match c with | .bytesOf _ => false | _ => true)
  | _ => false
structure Still (st : St) (r : OR) : Prop where
  eq : ∀ v st', r = .ok v st' → st' = st
section
variable {st : St}
theorem Still.bad : Still st .bad := ⟨fun _ _ h => by cases h⟩
theorem Still.ok (v : CV) : Still st (.ok v st) := ⟨fun _ _ h => by cases h; rfl⟩
theorem Still.bsel {b : Bool} {x y : OR} (hx : Still st x) (hy : Still st y) : Still st (bsel b x y) := by cases b; exact hy; exact hx
theorem Still.opt {α : Type} {x : Option α} {n : OR} {f : α → OR} (hn : Still st n) (h : ∀ v, Still st (f v)) : Still st (Option.rec (motive := fun _ => OR) n f x) := by cases x; exact hn; exact h _
theorem Still.forceN {n : Nat} {f : Nat → OR} (h : ∀ v, Still st (f v)) : Still st (Sim.forceN n f) := by rw [forceN_eq]; exact h _
theorem Still.forceZ {n : Int} {f : Int → OR} (h : ∀ v, Still st (f v)) : Still st (Sim.forceZ n f) := by rw [forceZ_eq]; exact h _
theorem Still.okZ {k : IntKind} {n : Int} : Still st (Sim.okZ k st n) := Still.ok _
theorem Still.okN {k : IntKind} {n : Nat} : Still st (Sim.okN k st n) := Still.ok _
theorem Still.forceG {s : Segs CV} {f : Segs CV → OR} (h : ∀ v, Still st (f v)) : Still st (Segs.force s f) := by rw [Segs.force_eq]; exact h _
end
theorem Still.okB {st : St} {b : Bool} : Still st (Sim.okB b st) := by rw [okB_eq]; exact Still.ok _
theorem runOp_still {call : CallF} {op : COp} {fr : Fr} {st : St} (h : op.still = true) : Still st (runOp call op fr st) := by
  cases op <;> first | (cases h; done) | skip
  all_goals
    simp only [runOp]
    first
      | exact Still.ok _
      | (first | unfold pPick | unfold pLoad1 | unfold pLoadN | unfold pNil | unfold pUn | unfold pConv | unfold pS2ap | unfold pIface | unfold pFunc | unfold pSliceStr | unfold pSliceSl | unfold pSlice3
               | unfold pSliceArr | unfold pFieldAddr | unfold pField | unfold pIdxArr | unfold pIdxSl | unfold pIdxStr | unfold pIdxAgg | unfold pLookup | unfold pExtract | unfold pLen | unfold pMM | unfold pBin | unfold pBuild)
  all_goals repeat' first
    | exact Still.ok _
    | exact Still.bad
    | exact Still.okB
    | (cases h; done)
    | apply Still.bsel
    | apply Still.opt
    | apply Still.forceN
    | apply Still.forceZ
    | apply Still.forceG
    | (intro _)
    | (split)
    | (unfold pInt)
    | (unfold pInt2)
    | (unfold pStr)
    | (unfold pEq)
    | (unfold pBits)
    | (unfold pCapLess)
    | (unfold pLookupL)
end Sim

/- Sim, part 22b: blocks that are laid ahead: in the clean memory, not yet in the world. -/
namespace Sim
open Go

noncomputable def newF (P : Program) (o : Oper) : Option (TypeId × Segs CV) :=
  match o.op with
  | .alloc t => (match infoT P t with | some i => (match zrow i with | some z => some (t, z) | none => none) | none => none)
  | _ => none
/-- A slice of parts: a block of its own; late: it may come at any moment. -/
noncomputable def lateF (P : Program) (o : Oper) : Option (Nat × Nat × Segs CV × List PartA) :=
  match o.op with
  | .buildSlice t len parts => (match undT P t with
    | some (.slice e) => (match infoT P e with
      | some i => bsel (Nat.ble (Nat.mul len i.size) 16777216) (match zrow i, cParts (placeA i.size) parts.toList with | some z, some ps => some (e, len, z, ps) | _, _ => none) none
      | none => none)
    | _ => none)
  | _ => none
noncomputable def isB (P : Program) (o : Oper) : Bool := Option.rec (motive := fun _ => Bool) false (fun _ => true) (lateF P o)
noncomputable def pLateAt (b : Bp) (e len : Nat) (z : Segs CV) (parts : List Part) (st : St) : OR :=
  Option.rec (motive := fun _ => OR) (Option.rec .bad (fun s => s.force fun s => .ok (.slice b 0 len len 0) ⟨st.mem.put b (some (.cells s e false)), st.next⟩) (fillS parts z)) (fun _ => .bad) (st.mem.get b)
noncomputable def pNewAt (b : Bp) (z : Segs CV) (t : TypeId) (st : St) : OR := onBlk (st.mem.get b) fun s u _ => bsel (Bool.and (segE s z) (Nat.beq u t)) (.ok (.ptr b 0) st) .bad
noncomputable def stepD (P : Program) (call : CallF) (ops : Array Oper) (ab : Option Bp) (o : Oper) (fr : Fr) (st : St) : OR :=
  match newF P o, ab with
  | none, none => stepC P call ops o fr st
  | some tz, some b => (match wantedC ops fr o with | some true => pNewAt b tz.2 tz.1 st | some false => .ok .undef st | none => .bad)
  | none, some b => (match lateF P o with
    | some x => (match wantedC ops fr o with | some true => pLateAt b x.1 x.2.1 (repS x.2.1 x.2.2.1) (evP fr x.2.2.2) st | some false => .ok .undef st | none => .bad)
    | none => .bad)
  | _, _ => .bad
noncomputable def isW (P : Program) (o : Oper) : Bool := match newF P o with | some _ => false | none => (match lateF P o with | some _ => false | none => (match compOpT P o.op with | some op => Bool.not op.still | none => false))
theorem lateF_comp {P : Program} {o : Oper} {e len : Nat} {z : Segs CV} {ps : List PartA} (h : lateF P o = some (e, len, z, ps)) : compOpT P o.op = some (.buildSlice e len z ps) := by
  unfold lateF at h
  unfold compOpT
  split at h
  · rename_i t l parts ho
    rw [ho]
    dsimp only
    split at h
    · rename_i e' hu
      rw [hu]
      dsimp only
      split at h
      · rename_i i hi
        rw [hi]
        dsimp only
        rw [bsel_eq] at h ⊢
        split at h
        · rename_i hb
          rw [if_pos hb]
          split at h
          · rename_i z' ps' hz hp
            cases h
            rw [hz, hp]
          · cases h
        · cases h
      · cases h
    · cases h
  · cases h
theorem newF_late {P : Program} {o : Oper} (h : newF P o ≠ none) : lateF P o = none := by
  unfold newF at h
  unfold lateF
  split at h
  · rename_i t ho; rw [ho]
  · exact absurd rfl h

section
variable {P : Program} {ρ : Ren} {st st' : St} {w : World} {v : CV} {fr : Fr} {a : Act} {call : CallF}
/-- The clean memory may be turned where nothing is known. -/
theorem After.silent {ρ0 : Ren} {st0 M M2 : St} {w0 : World} (h : After ρ0 st0 w0 ρ M w) (hm : ∀ q x, ρ q = some x → M2.mem.get q = M.mem.get q) (hn : M2.next = M.next) : After ρ0 st0 w0 ρ M2 w where
  wr := ⟨fun b blk r sz h1 h2 => h.wr.at' b blk r sz (by rw [← hm b _ h2]; exact h1) h2, fun b b' k k' r s s' h1 h2 h3 h4 => h.wr.inj b b' k k' r s s' (by rw [← hm b _ h3]; exact h1) (by rw [← hm b' _ h4]; exact h2) h3 h4, fun b x hx => by rw [hn]; exact h.wr.fresh b x hx, h.wr.glob.sub fun b blk r sz h1 h2 => ⟨blk, by rw [← hm b _ h2]; exact h1⟩⟩
  ext := h.ext
  dom := h.dom
  next := by rw [hn]; exact h.next
  origin := fun b blk r sz h1 h2 => h.origin b blk r sz (by rw [← hm b _ h2]; exact h1) h2
  kept := h.kept
  size := h.size
  os := h.os
  output := h.output
theorem WR.sub {M s : St} (h : WR ρ M w) (hm : ∀ q x, ρ q = some x → s.mem.get q = M.mem.get q ∨ s.mem.get q = none) (hn : s.next = M.next) : WR ρ s w := by
  have key : ∀ b blk x, s.mem.get b = some blk → ρ b = some x → M.mem.get b = some blk := fun b blk x h1 h2 => by
    rcases hm b x h2 with e | e
    · rw [← e]; exact h1
    · rw [e] at h1; cases h1
  exact ⟨fun b blk r sz h1 h2 => h.at' b blk r sz (key b blk _ h1 h2) h2, fun b b' k k' r z z' h1 h2 h3 h4 => h.inj b b' k k' r z z' (key b k _ h1 h3) (key b' k' _ h2 h4) h3 h4, fun b x hx => by rw [hn]; exact h.fresh b x hx, h.glob.sub fun b blk r sz h1 h2 => ⟨blk, key b blk _ h1 h2⟩⟩
/-- What is not looked at stays. -/
theorem After.frame {M M' s s' : St} {ρ' : Ren} {w' : World} (h : WR ρ M w) (hn : s.next = M.next) (hm : ∀ q x, ρ q = some x → s.mem.get q = M.mem.get q ∨ s.mem.get q = none) (hA : After ρ s w ρ' s' w') (hn' : M'.next = s'.next)
    (hm' : ∀ q x, ρ' q = some x → M'.mem.get q = s'.mem.get q ∨ ((∃ y, ρ q = some y) ∧ s.mem.get q = none ∧ M'.mem.get q = M.mem.get q)) : After ρ M w ρ' M' w' := by
  have low : ∀ q blk r sz, M.mem.get q = some blk → ρ q = some (r, sz) → r < w.heap.size := fun q blk r sz h1 h2 => by
    obtain ⟨o, e2, _⟩ := h.at' q blk r sz h1 h2
    exact (Array.getElem?_eq_some_iff.1 e2).1
  have up : ∀ q blk x, s.mem.get q = some blk → ρ q = some x → M.mem.get q = some blk := fun q blk x h1 h2 => by
    rcases hm q x h2 with e | e
    · rw [← e]; exact h1
    · rw [e] at h1; cases h1
  have mix : ∀ b blk r sz, s'.mem.get b = some blk → ρ' b = some (r, sz) → ∀ q blk' sz', s.mem.get q = none → M.mem.get q = some blk' → ρ q = some (r, sz') → False := by
    intro b blk r sz h1 h2 q blk' sz' h3 h4 h5
    rcases hA.origin b blk r sz h1 h2 with ⟨b0, blk0, sz0, g1, g2⟩ | g
    · have := h.inj b0 q blk0 blk' r sz0 sz' (up b0 blk0 _ g1 g2) h4 g2 h5
      subst this
      rw [h3] at g1; cases g1
    · have := low q blk' r sz' h4 h5; omega
  have hor : ∀ b blk r sz, M'.mem.get b = some blk → ρ' b = some (r, sz) → (∃ b0 blk0 sz0, M.mem.get b0 = some blk0 ∧ ρ b0 = some (r, sz0)) ∨ w.heap.size ≤ r := fun b blk r sz h1 h2 => by
    rcases hm' b _ h2 with e | ⟨⟨y, e2⟩, e3, e4⟩
    · rcases hA.origin b blk r sz (by rw [← e]; exact h1) h2 with ⟨b0, blk0, sz0, g1, g2⟩ | g
      · exact .inl ⟨b0, blk0, sz0, up b0 blk0 _ g1 g2, g2⟩
      · exact .inr g
    · have := hA.ext b y e2
      rw [h2] at this; cases this
      exact .inl ⟨b, blk, sz, by rw [← e4]; exact h1, e2⟩
  have hkp : ∀ r : Nat, r < w.heap.size → (∀ b blk sz, M.mem.get b = some blk → ρ b ≠ some (r, sz)) → w'.heap[r]? = w.heap[r]? := fun r hr hk => hA.kept r hr fun b blk sz g1 g2 => hk b blk sz (up b blk _ g1 g2) g2
  refine ⟨⟨fun b blk r sz h1 h2 => ?_, fun b b' k k' r z z' h1 h2 h3 h4 => ?_, fun b x hx => by rw [hn']; exact hA.wr.fresh b x hx, h.glob.keep hor hkp⟩, hA.ext, fun q hq hr => hA.dom q (by rw [hn]; exact hq) hr, by rw [hn', ← hn]; exact hA.next, fun b blk r sz h1 h2 => ?_, fun r hr hk => hA.kept r hr fun b blk sz g1 g2 => hk b blk sz (up b blk _ g1 g2) g2, hA.size, hA.os, hA.output⟩
  · rcases hm' b _ h2 with e | ⟨⟨y, e2⟩, e3, e4⟩
    · exact hA.wr.at' b blk r sz (by rw [← e]; exact h1) h2
    · have := hA.ext b y e2
      rw [h2] at this; cases this
      rw [e4] at h1
      obtain ⟨o, g1, g2⟩ := h.at' b blk r sz h1 e2
      refine ⟨o, ?_, g2.mono hA.ext⟩
      rw [hA.kept r (low b blk r sz h1 e2)]
      · exact g1
      · intro b' blk' sz' g3 g4
        have := h.inj b' b blk' blk r sz' sz (up b' blk' _ g3 g4) h1 g4 e2
        subst this
        rw [e3] at g3; cases g3
  · rcases hm' b _ h3 with e | ⟨⟨y, e2⟩, e3, e4⟩
    · rcases hm' b' _ h4 with f | ⟨⟨y', f2⟩, f3, f4⟩
      · exact hA.wr.inj b b' k k' r z z' (by rw [← e]; exact h1) (by rw [← f]; exact h2) h3 h4
      · have := hA.ext b' y' f2
        rw [h4] at this; cases this
        exact absurd (mix b k r z (by rw [← e]; exact h1) h3 b' k' z' f3 (by rw [← f4]; exact h2) f2) id
    · have := hA.ext b y e2
      rw [h3] at this; cases this
      rcases hm' b' _ h4 with f | ⟨⟨y', f2⟩, f3, f4⟩
      · exact absurd (mix b' k' r z' (by rw [← f]; exact h2) h4 b k z e3 (by rw [← e4]; exact h1) e2) id
      · have := hA.ext b' y' f2
        rw [h4] at this; cases this
        exact h.inj b b' k k' r z z' (by rw [← e4]; exact h1) (by rw [← f4]; exact h2) e2 f2
  · rcases hm' b _ h2 with e | ⟨⟨y, e2⟩, e3, e4⟩
    · rcases hA.origin b blk r sz (by rw [← e]; exact h1) h2 with ⟨b0, blk0, sz0, g1, g2⟩ | g
      · exact .inl ⟨b0, blk0, sz0, up b0 blk0 _ g1 g2, g2⟩
      · exact .inr g
    · have := hA.ext b y e2
      rw [h2] at this; cases this
      exact .inl ⟨b, blk, sz, by rw [← e4]; exact h1, e2⟩
/-- A block that waited comes into the world. -/
theorem After.come {ρ0 : Ren} {st0 M : St} {w0 : World} {b : Bp} {s : Segs CV} {t : TypeId} {g : Bool} {l : List Value} (hA : After ρ0 st0 w0 ρ M w) (hm : M.mem.get b = some (.cells s t g)) (hb : ρ b = none) (hlt : b.dec < M.next.dec) (hl : VRs ρ (row s) l) (hN : st0.next.dec ≤ b.dec) :
    After ρ0 st0 w0 (ρ.set b (w.heap.size, l.length)) M { w with heap := w.heap.push (.cells l.toArray t) } := by
  have hw := hA.wr
  have hle : ρ.le (ρ.set b (w.heap.size, l.length)) := fun q x hx => by
    rw [Ren.set_ne _ _ _ _ (fun e => by subst e; rw [hb] at hx; cases hx)]; exact hx
  have hlow : ∀ q blk r s, M.mem.get q = some blk → ρ q = some (r, s) → r < w.heap.size := fun q blk r s h1 h2 => by
    obtain ⟨o, e2, _⟩ := hw.at' q blk r s h1 h2
    exact (Array.getElem?_eq_some_iff.1 e2).1
  have hwr : WR (ρ.set b (w.heap.size, l.length)) M { w with heap := w.heap.push (.cells l.toArray t) } := by
    refine ⟨fun q blk r sz h1 h2 => ?_, fun q q' blk blk' r sz sz' h1 h2 h3 h4 => ?_, fun q x hx => ?_, hw.glob.keep (fun q blk r sz h1 h2 => ?_) (fun r hr _ => ?_)⟩
    · by_cases e : q = b
      · subst e
        rw [Ren.set_same] at h2; cases h2
        rw [hm] at h1; cases h1
        have hlen : s.size = l.length := by rw [← row_length, hl.len]
        refine ⟨.cells l.toArray t, by simp, ?_⟩
        have hbr := BR.cells (ρ := ρ.set q (w.heap.size, l.length)) s t g l.toArray 0 0 (by simp [hlen]) (by rw [hlen]; simpa using hl.mono hle) (by omega) (by intros; omega)
        simpa using hbr
      · rw [Ren.set_ne _ _ _ _ e] at h2
        obtain ⟨o, e2, e3⟩ := hw.at' q blk r sz h1 h2
        refine ⟨o, ?_, e3.mono hle⟩
        have := (Array.getElem?_eq_some_iff.1 e2).1
        show (w.heap.push _)[r]? = _
        rw [Array.getElem?_push, if_neg (by omega)]; exact e2
    · by_cases e : q = b
      · by_cases e' : q' = b
        · rw [e, e']
        · rw [e, Ren.set_same] at h3; cases h3
          rw [Ren.set_ne _ _ _ _ e'] at h4
          have := hlow q' blk' _ _ h2 h4; omega
      · by_cases e' : q' = b
        · rw [e', Ren.set_same] at h4; cases h4
          rw [Ren.set_ne _ _ _ _ e] at h3
          have := hlow q blk _ _ h1 h3; omega
        · rw [Ren.set_ne _ _ _ _ e] at h3; rw [Ren.set_ne _ _ _ _ e'] at h4
          exact hw.inj q q' blk blk' r sz sz' h1 h2 h3 h4
    · by_cases e : q = b
      · subst e; exact hlt
      · rw [Ren.set_ne _ _ _ _ e] at hx; exact hw.fresh q x hx
    · by_cases e : q = b
      · subst e; rw [Ren.set_same] at h2; cases h2; exact .inr (Nat.le_refl _)
      · rw [Ren.set_ne _ _ _ _ e] at h2; exact .inl ⟨q, blk, sz, h1, h2⟩
    · show (w.heap.push _)[r]? = _
      rw [Array.getElem?_push, if_neg (by omega)]
  refine ⟨hwr, fun q x hx => hle q x (hA.ext q x hx), fun q hq hn => ?_, hA.next, fun q blk r sz h1 h2 => ?_, fun r hr hn => ?_, ?_, hA.os, hA.output⟩
  · rw [Ren.set_ne _ _ _ _ (fun e => by subst e; omega)]; exact hA.dom q hq hn
  · by_cases e : q = b
    · subst e; rw [Ren.set_same] at h2; cases h2; exact .inr hA.size
    · rw [Ren.set_ne _ _ _ _ e] at h2; exact hA.origin q blk r sz h1 h2
  · show (w.heap.push _)[r]? = _
    have := hA.size
    rw [Array.getElem?_push, if_neg (by omega)]; exact hA.kept r hr hn
  · show w0.heap.size ≤ (w.heap.push _).size
    have := hA.size
    rw [Array.size_push]; omega

theorem newF_some {o : Oper} {t : TypeId} {z : Segs CV} (h : newF P o = some (t, z)) : ∃ l : List Value, (∀ ρ, VRs ρ (row z) l) ∧
    ∀ (f : Operand → Value) (w : World), (execOp f o).run P w = .ok (.value (.pointer (some ⟨w.heap.size, 0, none⟩))) { w with heap := w.heap.push (.cells l.toArray t) } := by
  unfold newF at h
  split at h
  · rename_i t' ho
    rw [infoT_eq] at h
    split at h
    · rename_i i hi
      split at h
      · rename_i z' hz
        cases h
        obtain ⟨zv, z1, z2, z3⟩ := zrow_some hz
        refine ⟨zv.cells.toList, z3, fun f w => ?_⟩
        unfold execOp
        rw [ho]
        simp [Instr.alloc, zeroValue, typeInfo, hi, z1, newVar]
        rfl
      · cases h
    · cases h
  · cases h

theorem fill_rows {i : TypeInfo} {len : Nat} {z s : Segs CV} {z' : Value} {parts : List Part} {parts' : Array (Nat × Value)} (hf : fillS parts (repS len z) = some s) (hsz : z'.cells.size = i.size) (hzz : ∀ ρ, VRs ρ (row z) z'.cells.toList) (hp : PartsR ρ (placeA i.size) parts parts'.toList) :
    ∃ cells', Instr.fill (placeA i.size) ((Array.range (len * i.size)).map (z'.cells[· % z'.cells.size]!)) parts'.toList = some cells' ∧ VRs ρ (row s) cells'.toList := by
  have hrow : (List.replicate len z'.cells.toList).flatten = ((Array.range (len * i.size)).map (z'.cells[· % z'.cells.size]!)).toList := by
    rw [← hsz, Array.toList_map, Array.toList_range]; exact (range_mod z'.cells len).symm
  have hvz : VRs ρ (row (repS len z)) ((Array.range (len * i.size)).map (z'.cells[· % z'.cells.size]!)).toList := by
    rw [row_repS, ← hrow]; exact (hzz ρ).flatten len
  exact fill_sound hp hf hvz
theorem late_run {o : Oper} {e len : Nat} {z s : Segs CV} {ps : List PartA} (h : lateF P o = some (e, len, z, ps)) (hf : FR ρ fr a.tmps) (hs : fillS (evP fr ps) (repS len z) = some s) :
    ∃ l : List Value, VRs ρ (row s) l ∧ ∀ w, (execOp a.eval o).run P w = .ok (.value (.slice (some ⟨w.heap.size, 0, none⟩) len len)) { w with heap := w.heap.push (.cells l.toArray e) } := by
  unfold lateF at h
  split at h
  · rename_i t l parts ho
    rw [undT_eq] at h
    split at h
    · rename_i e' hu
      rw [infoT_eq] at h
      split at h
      · rename_i i hi
        simp only [bsel_eq, Nat.ble_eq] at h
        split at h
        · rename_i hle
          split at h
          · rename_i z' ps' hz hp
            cases h
            obtain ⟨zv, z1, z2, z3⟩ := zrow_some hz
            have hpp := cParts_sound hp hf
            obtain ⟨cells', f1, f2⟩ := fill_rows (parts' := parts.map fun p => (p.1, a.eval p.2)) hs z2 z3 (by rw [Array.toList_map]; exact hpp)
            refine ⟨cells'.toList, f2, fun w => ?_⟩
            have hn : ¬ (len * i.size > 2 ^ 24) := by have hle' : len * i.size ≤ 16777216 := hle; show ¬ (len * i.size > 16777216); omega
            have h1 : ∀ c : Array Value, (newRow e c).run P w = .ok ⟨w.heap.size, 0, none⟩ { w with heap := w.heap.push (.cells c e) } := fun c => rfl
            have he : execOp a.eval o = (do let v ← Instr.buildSlice t len (parts.map fun p => (p.1, a.eval p.2)); pure (.value v)) := by
              unfold execOp; rw [ho]
            have hpl : (fun k => some (k * i.size, i.size)) = placeA i.size := rfl
            rw [he, Array.toArray_toList]
            simp only [Instr.buildSlice, Sem.run_bind, run_underlying hu, Result.andThen_ok, Go.sizeOf, typeInfo, run_program, hi, Sem.run_pure, if_neg hn]
            by_cases h0 : len * i.size = 0
            · have hz0 : ((Array.range (len * i.size)).map (zv.cells[· % zv.cells.size]!)) = ((Array.range (len * i.size)).map ((#[] : Array Value)[· % (#[] : Array Value).size]!)) := by
                rw [h0, Array.range_zero']; simp
              rw [hz0] at f1
              rw [if_pos h0]
              show Result.andThen (Sem.run P (do
                let some cells := Instr.fill (placeA i.size) ((Array.range (len * i.size)).map ((#[] : Array Value)[· % (#[] : Array Value).size]!)) (parts.map fun p => (p.1, a.eval p.2)).toList | stuck "buildSlice: a part of the wrong size"
                pure (Value.slice (some (← newRow e cells)) len len)) w) _ = _
              rw [f1]
              simp only [Sem.run_bind, h1, Result.andThen_ok, Sem.run_pure]
            · rw [if_neg h0]
              simp only [zeroValue, typeInfo, Sem.run_bind, run_program, Result.andThen_ok, hi, z1, Sem.run_pure]
              rw [hpl, f1]
              simp only [Sem.run_bind, h1, Result.andThen_ok, Sem.run_pure]
          · cases h
        · cases h
      · cases h
    · cases h
  · cases h

/-- A step of a block laid ahead. -/
theorem stepNew_sound {ops : Array Oper} {b : Bp} {o : Oper} {tz : TypeId × Segs CV} (hnf : newF P o = some tz) {M : St} (h : stepD P call ops (some b) o fr st = .ok v st') (hm : M.mem.get b = st.mem.get b) {ρ0 : Ren} {st0 : St} {w0 : World} (hA : After ρ0 st0 w0 ρ M w) (hf : FR ρ fr a.tmps) (hb : ρ b = none) (hlt : b.dec < M.next.dec) (hN : st0.next.dec ≤ b.dec)
    {next : Act → World → Prop} {Q : Exit → Act → World → Prop} (hn : ∀ v' w' ρ', VR ρ' v v' → After ρ0 st0 w0 ρ' M w' → ρ.le ρ' → (∀ q, q ≠ b → ρ' q = ρ q) → next (a.put o.dst v') w') :
    if Region.wanted o (yielded ops a.tmps) then o.wp P a w next Q else next (a.put o.dst undef) w := by
  obtain ⟨t, z⟩ := tz
  unfold stepD at h
  rw [hnf] at h
  dsimp only at h
  split at h
  · rename_i hwt
    rw [if_pos (wantedC_sound hwt hf)]
    unfold pNewAt at h
    rw [onBlk_eq] at h
    split at h
    · rename_i s u g hmm
      simp only [bsel_eq, Bool.and_eq_true, Nat.beq_eq] at h
      split at h
      · rename_i hh
        obtain ⟨h1, rfl⟩ := hh
        have := segE_sound h1; subst this
        cases h
        obtain ⟨l, hl, hrun⟩ := newF_some hnf
        unfold Oper.wp
        rw [hrun]
        exact hn _ _ _ (.ptr b 0 _ _ (Ren.set_same ρ b _)) (hA.come (by rw [hm]; exact hmm) hb hlt (hl ρ) hN) (fun q x hx => by rw [Ren.set_ne _ _ _ _ (fun e => by subst e; rw [hb] at hx; cases hx)]; exact hx) (fun q hq => Ren.set_ne _ _ _ _ hq)
      · cases h
    · cases h
  · rename_i hwt
    rw [if_neg (by rw [wantedC_sound hwt hf]; simp)]
    cases h
    exact hn _ w ρ .undef hA (fun _ _ h => h) fun _ _ => rfl
  · cases h

/-- What a late step comes to. -/
theorem stepLate_inv {ops : Array Oper} {b : Bp} {o : Oper} {x : Nat × Nat × Segs CV × List PartA} (hl : lateF P o = some x) (h : stepD P call ops (some b) o fr st = .ok v st') :
    (wantedC ops fr o = some false ∧ v = .undef ∧ st' = st) ∨
    (wantedC ops fr o = some true ∧ ∃ s, fillS (evP fr x.2.2.2) (repS x.2.1 x.2.2.1) = some s ∧ st.mem.get b = none ∧ v = .slice b 0 x.2.1 x.2.1 0 ∧ st' = ⟨st.mem.put b (some (.cells s x.1 false)), st.next⟩) := by
  have hn : newF P o = none := by
    cases hh : newF P o with
    | none => rfl
    | some tz => have := newF_late (P := P) (o := o) (by rw [hh]; simp); rw [hl] at this; cases this
  unfold stepD at h
  rw [hn, hl] at h
  dsimp only at h
  split at h
  · rename_i hwt
    unfold pLateAt at h
    cases hg : st.mem.get b with
    | some _ => rw [hg] at h; cases h
    | none =>
      rw [hg] at h
      cases hf : fillS (evP fr x.2.2.2) (repS x.2.1 x.2.2.1) with
      | none => rw [hf] at h; cases h
      | some s =>
        rw [hf] at h
        dsimp only at h
        rw [Segs.force_eq] at h; cases h
        exact .inr ⟨hwt, s, rfl, rfl, rfl, rfl⟩
  · rename_i hwt; cases h; exact .inl ⟨hwt, rfl, rfl⟩
  · cases h
theorem stepC_of_stepD {ops : Array Oper} {ab : Option Bp} {o : Oper} (hn : newF P o = none) (hl : lateF P o = none) (h : stepD P call ops ab o fr st = .ok v st') : ab = none ∧ stepC P call ops o fr st = .ok v st' := by
  unfold stepD at h
  rw [hn] at h
  cases ab with
  | none => exact ⟨rfl, h⟩
  | some b => dsimp only at h; rw [hl] at h; cases h

theorem wantedC_congr {ops : Array Oper} {o : Oper} {fr' : Fr} (h : ∀ g b d, o.guard = some (g, b) → (ops[g]?).bind (·.dst) = some d → fget fr (Bp.enc d) = fget fr' (Bp.enc d)) : wantedC ops fr o = wantedC ops fr' o := by
  rw [wantedC_eq, wantedC_eq]
  cases hg : o.guard with
  | none => rfl
  | some gb =>
    obtain ⟨g, b⟩ := gb
    dsimp only
    cases hd : (ops[g]?).bind (·.dst) with
    | none => rfl
    | some d => dsimp only; rw [h g b d hg hd]
end

/- blocks laid ahead -/
noncomputable def preA {β : Type} (P : Program) (l : List Oper) : St → (List (Option Bp) → St → β) → β :=
  List.rec (motive := fun _ => St → (List (Option Bp) → St → β) → β) (fun st k => k [] st)
    (fun o _ ih st k => Option.rec (Bool.rec (motive := fun _ => β) (ih st fun as st => k (none :: as) st) (forceB st.next.succ fun nx => ih ⟨st.mem, nx⟩ fun as st2 => k (some st.next :: as) st2) (isB P o))
      (fun tz => forceB st.next.succ fun nx => forceS ⟨st.mem.put st.next (some (.cells tz.2 tz.1 false)), nx⟩ fun st1 => ih st1 fun as st2 => k (some st.next :: as) st2) (newF P o)) l
structure PreOK (P : Program) (l : List Oper) (st : St) (as : List (Option Bp)) (st1 : St) : Prop where
  len : as.length = l.length
  next : st.next.dec ≤ st1.next.dec
  range : ∀ (i : Nat) (b : Bp), as[i]? = some (some b) → st.next.dec ≤ b.dec ∧ b.dec < st1.next.dec
  uniq : ∀ (i j : Nat) (b : Bp), as[i]? = some (some b) → as[j]? = some (some b) → i = j
  after : ∀ ρ w, WR ρ st w → After ρ st w ρ st1 w
  olds : ∀ (i : Nat) (o : Oper), l[i]? = some o → newF P o = none → isB P o = false → as[i]? = some none
  news : ∀ (i : Nat) (o : Oper), l[i]? = some o → newF P o ≠ none ∨ isB P o = true → ∃ b, as[i]? = some (some b)
theorem After.pend {ρ : Ren} {st : St} {w : World} (h : WR ρ st w) (blk : Blk) : After ρ st w ρ (st.new blk) w := by
  have hn : ρ st.next = none := by
    cases hh : ρ st.next with
    | none => rfl
    | some x => have := h.fresh _ x hh; omega
  have hold : ∀ b blk' x, (st.new blk).mem.get b = some blk' → ρ b = some x → st.mem.get b = some blk' := fun b blk' x h1 h2 => by
    have hb : b ≠ st.next := fun e => by rw [e, hn] at h2; cases h2
    simpa [St.new, PT.get_put_ne _ _ _ _ hb] using h1
  refine ⟨⟨fun b blk' r sz h1 h2 => h.at' b blk' r sz (hold b blk' _ h1 h2) h2, fun b b' k k' r s s' h1 h2 h3 h4 => h.inj b b' k k' r s s' (hold b k _ h1 h3) (hold b' k' _ h2 h4) h3 h4, fun b x hx => ?_, h.glob.sub fun b blk' r sz h1 h2 => ⟨blk', hold b blk' _ h1 h2⟩⟩, fun _ _ h => h, fun _ _ h => h, ?_,
    fun b blk' r sz h1 h2 => .inl ⟨b, blk', sz, hold b blk' _ h1 h2, h2⟩, fun _ _ _ => rfl, Nat.le_refl _, rfl, rfl⟩
  · show b.dec < st.next.succ.dec
    rw [Bp.dec_succ]; have := h.fresh b x hx; omega
  · show st.next.dec ≤ st.next.succ.dec
    rw [Bp.dec_succ]; omega
theorem After.skip {ρ : Ren} {st : St} {w : World} (h : WR ρ st w) : After ρ st w ρ ⟨st.mem, st.next.succ⟩ w :=
  ⟨⟨h.at', h.inj, fun b x hx => by show b.dec < st.next.succ.dec; rw [Bp.dec_succ]; have := h.fresh b x hx; omega, h.glob.sub fun b blk' r sz h1 h2 => ⟨blk', h1⟩⟩, fun _ _ h => h, fun _ _ h => h, by show st.next.dec ≤ st.next.succ.dec; rw [Bp.dec_succ]; omega,
    fun b blk' r sz h1 h2 => .inl ⟨b, blk', sz, h1, h2⟩, fun _ _ _ => rfl, Nat.le_refl _, rfl, rfl⟩
theorem PreOK.cons {P : Program} {l : List Oper} {st st2 : St} {as : List (Option Bp)} {o : Oper} (hg : newF P o ≠ none ∨ isB P o = true) {mem : PT Blk} (h1 : PreOK P l ⟨mem, st.next.succ⟩ as st2) (ha : ∀ ρ w, WR ρ st w → After ρ st w ρ ⟨mem, st.next.succ⟩ w) : PreOK P (o :: l) st (some st.next :: as) st2 := by
  have hnx : (st.next.succ).dec = st.next.dec + 1 := Bp.dec_succ _
  have hr : ∀ (i : Nat) (b : Bp), as[i]? = some (some b) → st.next.dec + 1 ≤ b.dec ∧ b.dec < st2.next.dec := fun i b h => by
    have := h1.range i b h
    have e : (St.mk mem st.next.succ).next.dec = st.next.dec + 1 := hnx
    omega
  have hx : st.next.dec + 1 ≤ st2.next.dec := by have := h1.next; have e : (St.mk mem st.next.succ).next.dec = st.next.dec + 1 := hnx; omega
  refine ⟨by simp [h1.len], by omega, fun i b h => ?_, fun i j b h h' => ?_, fun ρ w hw => (ha ρ w hw).trans (h1.after ρ w (ha ρ w hw).wr), fun i o' h hh hb => ?_, fun i o' h hh => ?_⟩
  · cases i with
    | zero => simp at h; subst h; omega
    | succ i => have := hr i b (by simpa using h); omega
  · cases i with
    | zero =>
      cases j with
      | zero => rfl
      | succ j => simp at h; subst h; have := hr j _ (by simpa using h'); omega
    | succ i => cases j with
      | zero => simp at h'; subst h'; have := hr i _ (by simpa using h); omega
      | succ j => rw [h1.uniq i j b (by simpa using h) (by simpa using h')]
  · cases i with
    | zero => simp at h; subst h; rcases hg with hg | hg; exact absurd hh hg; rw [hb] at hg; cases hg
    | succ i => exact h1.olds i o' (by simpa using h) hh hb
  · cases i with
    | zero => exact ⟨_, rfl⟩
    | succ i => exact h1.news i o' (by simpa using h) hh
theorem preA_ok {P : Program} : ∀ (l : List Oper) (st : St), ∃ as st1, PreOK P l st as st1 ∧ ∀ (β : Type) (k : List (Option Bp) → St → β), preA P l st k = k as st1 := by
  intro l
  induction l with
  | nil => intro st; exact ⟨[], st, ⟨rfl, Nat.le_refl _, fun i b h => by simp at h, fun i j b h => by simp at h, fun ρ w h => After.refl h, fun i o h => by simp at h, fun i o h => by simp at h⟩, fun β k => rfl⟩
  | cons o l ih =>
    intro st
    have e : ∀ (β : Type) (k : List (Option Bp) → St → β), preA P (o :: l) st k = Option.rec (Bool.rec (motive := fun _ => β) (preA P l st fun as st => k (none :: as) st) (forceB st.next.succ fun nx => preA P l ⟨st.mem, nx⟩ fun as st2 => k (some st.next :: as) st2) (isB P o))
      (fun tz => forceB st.next.succ fun nx => forceS ⟨st.mem.put st.next (some (.cells tz.2 tz.1 false)), nx⟩ fun st1 => preA P l st1 fun as st2 => k (some st.next :: as) st2) (newF P o) := fun β k => rfl
    cases hn : newF P o with
    | none =>
      cases hb : isB P o with
      | false =>
        obtain ⟨as, st1, h1, h2⟩ := ih st
        refine ⟨none :: as, st1, ⟨by simp [h1.len], h1.next, fun i b h => ?_, fun i j b h h' => ?_, h1.after, fun i o h hh hbb => by cases i with | zero => rfl | succ i => exact h1.olds i o (by simpa using h) hh hbb, fun i o h hh => by cases i with | zero => (simp at h; subst h; rcases hh with hh | hh; exact absurd hn hh; rw [hb] at hh; cases hh) | succ i => exact h1.news i o (by simpa using h) hh⟩, fun β k => by rw [e, hn, hb]; exact h2 _ _⟩
        · cases i with
          | zero => simp at h
          | succ i => exact h1.range i b (by simpa using h)
        · cases i with
          | zero => simp at h
          | succ i => cases j with
            | zero => simp at h'
            | succ j => rw [h1.uniq i j b (by simpa using h) (by simpa using h')]
      | true =>
        obtain ⟨as, st2, h1, h2⟩ := ih ⟨st.mem, st.next.succ⟩
        exact ⟨some st.next :: as, st2, h1.cons (.inr hb) fun ρ w hw => After.skip hw, fun β k => by rw [e, hn, hb]; show forceB st.next.succ _ = _; rw [forceB_eq]; exact h2 _ _⟩
    | some tz =>
      obtain ⟨as, st2, h1, h2⟩ := ih (st.new (.cells tz.2 tz.1 false))
      exact ⟨some st.next :: as, st2, PreOK.cons (mem := st.mem.put st.next (some (.cells tz.2 tz.1 false))) (.inl (by rw [hn]; simp)) h1 fun ρ w hw => After.pend hw (.cells tz.2 tz.1 false), fun β k => by
        rw [e, hn]; show forceB st.next.succ _ = _; rw [forceB_eq]; rw [forceS_eq]; exact h2 _ _⟩
end Sim

/- Sim, part 23: regions that draw their order: the run, and the checks. -/
namespace Sim
open Go

noncomputable def anyL {α : Type} (l : List α) (p : α → Bool) : Bool := List.rec false (fun x _ r => Bool.or (p x) r) l
noncomputable def allL {α : Type} (l : List α) (p : α → Bool) : Bool := List.rec true (fun x _ r => Bool.and (p x) r) l
theorem anyL_iff {α : Type} {l : List α} {p : α → Bool} : anyL l p = true ↔ ∃ x ∈ l, p x = true := by
  induction l with
  | nil => simp [anyL]
  | cons x l ih =>
    have e : anyL (x :: l) p = Bool.or (p x) (anyL l p) := rfl
    rw [e]
    simp only [Bool.or_eq_true, ih, List.mem_cons, exists_eq_or_imp]
theorem allL_iff {α : Type} {l : List α} {p : α → Bool} : allL l p = true ↔ ∀ x ∈ l, p x = true := by
  induction l with
  | nil => simp [allL]
  | cons x l ih =>
    have e : allL (x :: l) p = Bool.and (p x) (allL l p) := rfl
    rw [e]
    simp only [Bool.and_eq_true, ih, List.mem_cons, forall_eq_or_imp]
/-- the list, each with its place. -/
noncomputable def idxL {α : Type} (l : List α) : Nat → List (Nat × α) := List.rec (motive := fun _ => Nat → List (Nat × α)) (fun _ => []) (fun x _ ih i => (i, x) :: ih (Nat.succ i)) l
theorem idxL_mem {α : Type} : ∀ {l : List α} {i : Nat} {k : Nat} {x : α}, l[k]? = some x → (i + k, x) ∈ idxL l i := by
  intro l
  induction l with
  | nil => intro i k x h; simp at h
  | cons y l ih =>
    intro i k x h
    have e : idxL (y :: l) i = (i, y) :: idxL l (i + 1) := rfl
    rw [e]
    cases k with
    | zero => simp at h; subst h; simp
    | succ k =>
      simp at h
      have := ih (i := i + 1) h
      rw [show i + (k + 1) = i + 1 + k by omega]
      exact List.mem_cons_of_mem _ this

noncomputable def looksL (P : Program) (ops : Array Oper) (o : Oper) : List CArg :=
  (match compOpT P o.op with | some op => op.args | none => []) ++
  (match o.guard with | some (g, _) => (match (ops[g]?).bind (·.dst) with | some d => [CArg.tmp (Bp.enc d)] | none => []) | none => [])
noncomputable def isAnc (ops : Array Oper) (f : Nat) : Nat → Nat → Bool :=
  Nat.rec (motive := fun _ => Nat → Nat → Bool) (fun _ _ => false) (fun _ ih i j => match ops[i]? with
    | none => false
    | some o => anyL o.after.toList fun e => Bool.and (Region.binds .any e) (forceN e.on fun k => Bool.or (Nat.beq k j) (ih k j))) f

section
variable {P : Program} {call : CallF} {ops : Array Oper}
theorem stepC_congr {o : Oper} {fr fr' : Fr} {st : St} (h : ∀ x ∈ looksL P ops o, ev fr x = ev fr' x) : stepC P call ops o fr st = stepC P call ops o fr' st := by
  have hw : wantedC ops fr o = wantedC ops fr' o := by
    rw [wantedC_eq, wantedC_eq]
    unfold looksL at h
    cases hg : o.guard with
    | none => rfl
    | some gb =>
      obtain ⟨g, b⟩ := gb
      dsimp only
      rw [hg] at h
      dsimp only at h
      cases hd : (ops[g]?).bind (·.dst) with
      | none => rfl
      | some d =>
        rw [hd] at h
        have h1 : fget fr (Bp.enc d) = fget fr' (Bp.enc d) := h (.tmp (Bp.enc d)) (by simp)
        dsimp only
        rw [h1]
  rw [stepC_eq, stepC_eq, hw]
  split
  · cases ho : compOpT P o.op with
    | none => rfl
    | some op =>
      dsimp only
      refine runOp_congr fun x hx => h x ?_
      unfold looksL
      rw [ho]
      simp [hx]
  · rfl
  · rfl
theorem stepD_congr {ab : Option Bp} {o : Oper} {fr fr' : Fr} {st : St} (h : ∀ x ∈ looksL P ops o, ev fr x = ev fr' x) : stepD P call ops ab o fr st = stepD P call ops ab o fr' st := by
  have hw : wantedC ops fr o = wantedC ops fr' o := wantedC_congr fun g b d hg hd =>
    h (.tmp (Bp.enc d)) (by unfold looksL; rw [hg]; dsimp only; rw [hd]; simp)
  unfold stepD
  rw [stepC_congr h, hw]
  cases newF P o with
  | some tz => cases ab <;> rfl
  | none =>
    cases ab with
    | none => rfl
    | some b =>
      dsimp only
      cases hl : lateF P o with
      | none => rfl
      | some x =>
        obtain ⟨e, len, z, ps⟩ := x
        dsimp only
        have hc := lateF_comp hl
        rw [evP_congr (fr := fr) (fr' := fr')]
        intro y hy
        refine h y ?_
        unfold looksL
        rw [hc]
        exact List.mem_append_left _ hy
theorem isB_none {o : Oper} (h : isB P o = false) : lateF P o = none := by
  unfold isB at h
  cases hl : lateF P o with
  | none => rfl
  | some x => rw [hl] at h; cases h
theorem isB_some {o : Oper} (h : isB P o = true) : ∃ x, lateF P o = some x := by
  unfold isB at h
  cases hl : lateF P o with
  | none => rw [hl] at h; cases h
  | some x => exact ⟨x, rfl⟩
theorem isB_new {o : Oper} (h : isB P o = true) : newF P o = none := by
  obtain ⟨x, hx⟩ := isB_some h
  cases hn : newF P o with
  | none => rfl
  | some tz => have := newF_late (P := P) (o := o) (by rw [hn]; simp); rw [hx] at this; cases this
theorem isB_isW {o : Oper} (h : isB P o = true) : isW P o = false := by
  obtain ⟨x, hx⟩ := isB_some h
  unfold isW
  rw [isB_new h, hx]
theorem isW_parts {o : Oper} (h : isW P o = true) : newF P o = none ∧ lateF P o = none := by
  unfold isW at h
  cases hn : newF P o with
  | some tz => rw [hn] at h; cases h
  | none =>
    rw [hn] at h
    cases hl : lateF P o with
    | some x => rw [hl] at h; cases h
    | none => exact ⟨rfl, rfl⟩
theorem stepD_still {ab : Option Bp} {o : Oper} {fr : Fr} {st st' : St} {v : CV} (hw : isW P o = false) (hb : isB P o = false) (h : stepD P call ops ab o fr st = .ok v st') : st' = st := by
  have hl := isB_none hb
  unfold stepD at h
  unfold isW at hw
  rw [hl] at hw h
  split at h
  · rename_i hn
    rw [hn] at hw
    dsimp only at hw
    rw [stepC_eq] at h
    split at h
    · split at h
      · rename_i op hop
        rw [hop] at hw
        exact (runOp_still (by simpa using hw)).eq _ _ h
      · cases h
    · cases h; rfl
    · cases h
  · split at h
    · unfold pNewAt at h
      rw [onBlk_eq] at h
      split at h
      · rw [bsel_eq] at h; split at h
        · cases h; rfl
        · cases h
      · cases h
    · cases h; rfl
    · cases h
  · cases h
  · cases h

def Lst (listed : Array Bool) (i : Nat) : Prop := listed.getD i false = true
def Deps (ops : Array Oper) (listed : Array Bool) (i : Nat) : Prop := ∀ o, ops[i]? = some o → ∀ e ∈ o.after, Region.binds .any e = true → Lst listed e.on
theorem anc_listed {listed : Array Bool} (hcl : ∀ i, Lst listed i → Deps ops listed i) : ∀ (f i j : Nat), isAnc ops f i j = true → Deps ops listed i → Lst listed j := by
  intro f
  induction f with
  | zero => intro i j h; cases h
  | succ f ih =>
    intro i j h hd
    have e : isAnc ops (f + 1) i j = (match ops[i]? with
      | none => false
      | some o => anyL o.after.toList fun e => Bool.and (Region.binds .any e) (forceN e.on fun k => Bool.or (Nat.beq k j) (isAnc ops f k j))) := rfl
    rw [e] at h
    split at h
    · cases h
    · rename_i o ho
      rw [anyL_iff] at h
      obtain ⟨x, hx, h⟩ := h
      simp only [forceN_eq, Bool.and_eq_true, Bool.or_eq_true, Nat.beq_eq] at h
      have hl := hd o ho x (by simpa using hx) h.1
      rcases h.2 with h2 | h2
      · rw [← h2]; exact hl
      · exact ih _ _ h2 (hcl _ hl)
end

/-- What was done at a place: its writers ahead, its frame, its value; the memory ahead and behind. -/
structure TR where
  i : Nat
  ab : Option Bp
  o : Oper
  w : Bool
  c : Nat
  fr : Fr
  v : CV
  s : St
  s1 : St
noncomputable def putC (n : Nat) (dst : Option Tmp) (v : CV) (fr : Fr) : Option Fr :=
  match dst with
  | none => some fr
  | some d => bsel (Nat.ble (Nat.succ d) n) (PT.force (fr.put (Bp.enc d) (some v)) some) none
theorem putC_some {n : Nat} {dst : Option Tmp} {v : CV} {fr fr' : Fr} (h : putC n dst v fr = some fr') : (dst = none ∧ fr' = fr) ∨ ∃ d, dst = some d ∧ d < n ∧ fr' = fr.put (Bp.enc d) (some v) := by
  unfold putC at h
  split at h
  · cases h; exact .inl ⟨rfl, rfl⟩
  · rename_i d
    simp only [bsel_eq, Nat.ble_eq, Nat.succ_le_iff, PT.force_eq] at h
    split at h
    · rename_i hd; cases h; exact .inr ⟨d, rfl, hd, rfl⟩
    · cases h
abbrev TRes := List TR × List St × Fr × St
noncomputable def trace (P : Program) (call : CallF) (n : Nat) (ops : Array Oper) (l : List (Oper × Option Bp)) : Nat → Nat → Fr → St → Option TRes :=
  List.rec (motive := fun _ => Nat → Nat → Fr → St → Option TRes) (fun _ _ fr st => some ([], [], fr, st)) (fun o _ ih i c fr st =>
    OR.rec (fun v st' => forceV v fun v => forceS st' fun st' =>
      Option.rec none (fun fr' => bsel (isW P o.1)
        (Option.rec none (fun r => some (⟨i, o.2, o.1, true, c, fr, v, st, st'⟩ :: r.1, st :: r.2.1, r.2.2)) (ih (Nat.succ i) (Nat.succ c) fr' st'))
        (Option.rec none (fun r => some (⟨i, o.2, o.1, false, c, fr, v, st, st'⟩ :: r.1, r.2.1, r.2.2)) (ih (Nat.succ i) c fr' st'))) (putC n o.1.dst v fr)) none (stepD P call ops o.2 o.1 fr st)) l
/-- The memory ahead of a place. -/
def preS (trs : List TR) (stf : St) (k : Nat) : St := match trs[k]? with | some t => t.s | none => stf

def FrP (l : List Oper) (trs : List TR) (L : Nat → Prop) (fr0 f : Fr) : Prop :=
  (∀ j o d t, L j → l[j]? = some o → o.dst = some d → trs[j]? = some t → fget f (Bp.enc d) = t.v) ∧
  (∀ p, (∀ j o d, L j → l[j]? = some o → o.dst = some d → Bp.enc d ≠ p) → fget f p = fget fr0 p)
def Apart (l : List Oper) : Prop := ∀ (j k : Nat) (a b : Oper) (d : Tmp), j < k → l[j]? = some a → l[k]? = some b → a.dst = some d → b.dst ≠ some d
noncomputable def cnt (P : Program) (l : List Oper) (k : Nat) : Nat := (l.take k).countP (isW P)

section
variable {P : Program} {call : CallF} {n : Nat} {ops : Array Oper}
theorem cnt_succ {l : List Oper} {k : Nat} {o : Oper} (h : l[k]? = some o) : cnt P l (k + 1) = cnt P l k + (if isW P o then 1 else 0) := by
  unfold cnt
  rw [List.take_add_one, h]
  simp [List.countP_append, List.countP_cons]
theorem cnt_cons {l : List Oper} {k : Nat} {o : Oper} : cnt P (o :: l) (k + 1) = (if isW P o then 1 else 0) + cnt P l k := by
  unfold cnt
  rw [List.take_succ_cons, List.countP_cons]
  omega
theorem cnt_mono {l : List Oper} {j k : Nat} (h : j ≤ k) : cnt P l j ≤ cnt P l k := by
  unfold cnt
  have : l.take j = (l.take k).take j := by rw [List.take_take, Nat.min_eq_left h]
  rw [this]
  exact (List.take_sublist _ _).countP_le
/-- each number below is some writer's. -/
theorem cnt_onto {l : List Oper} : ∀ (k : Nat), k ≤ l.length → ∀ c, c < cnt P l k → ∃ j o, j < k ∧ l[j]? = some o ∧ isW P o = true ∧ cnt P l j = c := by
  intro k
  induction k with
  | zero => intro _ c h; simp [cnt] at h
  | succ k ih =>
    intro hk c h
    have hlk : l[k]? = some l[k] := by simp
    rw [cnt_succ hlk] at h
    by_cases hc : c < cnt P l k
    · obtain ⟨j, o, h1, h2, h3, h4⟩ := ih (by omega) c hc
      exact ⟨j, o, by omega, h2, h3, h4⟩
    · have hw : isW P l[k] = true := by
        cases hh : isW P l[k] with
        | true => rfl
        | false => rw [hh] at h; simp at h; omega
      rw [hw] at h
      simp only [if_true] at h
      exact ⟨k, _, by omega, hlk, hw, by omega⟩

structure TrOK (L : List (Oper × Option Bp)) (P : Program) (call : CallF) (n : Nat) (ops : Array Oper) (i c : Nat) (fr : Fr) (st : St) (trs : List TR) (ch : List St) (frf : Fr) (stf : St) : Prop where
  len : trs.length = L.length
  at' : ∀ k o ab, L[k]? = some (o, ab) → ∃ t, trs[k]? = some t ∧ t.i = i + k ∧ t.ab = ab ∧ t.o = o ∧ t.w = isW P o ∧ t.c = c + cnt P (L.map (·.1)) k ∧ (∀ d, o.dst = some d → d < n) ∧ FrP (L.map (·.1)) trs (· < k) fr t.fr ∧
    stepD P call ops ab o t.fr t.s = .ok t.v t.s1 ∧ (isW P o = true → ch[cnt P (L.map (·.1)) k]? = some t.s)
  fst : preS trs stf 0 = st
  nxt : ∀ k t, trs[k]? = some t → t.s1 = preS trs stf (k + 1)
  fin : FrP (L.map (·.1)) trs (· < L.length) fr frf
  chl : ch.length = cnt P (L.map (·.1)) L.length

theorem FrP.cons {l : List Oper} {trs : List TR} {k : Nat} {o : Oper} {t0 : TR} {fr0 fr1 f : Fr} (hap : Apart (o :: l)) (h : FrP l trs (· < k) fr1 f) (hput : (o.dst = none ∧ fr1 = fr0) ∨ ∃ d, o.dst = some d ∧ d < n ∧ fr1 = fr0.put (Bp.enc d) (some t0.v)) :
    FrP (o :: l) (t0 :: trs) (· < k + 1) fr0 f := by
  constructor
  · intro j oj d t hj h1 h2 h3
    cases j with
    | zero =>
      simp at h1 h3; subst h1; subst h3
      rcases hput with ⟨e, _⟩ | ⟨d', e, _, rfl⟩
      · rw [h2] at e; cases e
      · rw [h2] at e; cases e
        rw [h.2 (Bp.enc d), fget_put_same]
        intro j oj d' hj h4 h5 e
        have := Bp.enc_inj e; subst this
        exact hap 0 (j + 1) o oj d' (by omega) (by simp) (by simpa using h4) h2 h5
    | succ j => exact h.1 j oj d t (by have : j + 1 < k + 1 := hj; show j < k; omega) (by simpa using h1) h2 (by simpa using h3)
  · intro p hp
    rw [h.2 p fun j oj d hj h1 h2 => hp (j + 1) oj d (by have : j < k := hj; show j + 1 < k + 1; omega) (by simpa using h1) h2]
    rcases hput with ⟨_, rfl⟩ | ⟨d, e, _, rfl⟩
    · rfl
    · rw [fget_put_ne]
      exact fun e' => hp 0 o d (by show 0 < k + 1; omega) (by simp) e e'.symm

theorem trace_ok : ∀ {L : List (Oper × Option Bp)} {i c : Nat} {fr : Fr} {st : St} {trs : List TR} {ch : List St} {frf : Fr} {stf : St}, trace P call n ops L i c fr st = some (trs, ch, frf, stf) → Apart (L.map (·.1)) → TrOK L P call n ops i c fr st trs ch frf stf := by
  intro L
  induction L with
  | nil =>
    intro i c fr st trs ch frf stf h _
    cases h
    exact ⟨rfl, fun k o ab h => by simp at h, rfl, fun k t h => by simp at h, ⟨fun j o d t _ h => by simp at h, fun p _ => rfl⟩, rfl⟩
  | cons oa L ih =>
    obtain ⟨o, ab⟩ := oa
    intro i c fr st trs ch frf stf h hap
    rw [List.map_cons] at hap
    have e : trace P call n ops ((o, ab) :: L) i c fr st = OR.rec (motive := fun _ => Option TRes) (fun v st' => forceV v fun v => forceS st' fun st' =>
      Option.rec none (fun fr' => bsel (isW P o)
        (Option.rec none (fun r => some (⟨i, ab, o, true, c, fr, v, st, st'⟩ :: r.1, st :: r.2.1, r.2.2)) (trace P call n ops L (i + 1) (c + 1) fr' st'))
        (Option.rec none (fun r => some (⟨i, ab, o, false, c, fr, v, st, st'⟩ :: r.1, r.2.1, r.2.2)) (trace P call n ops L (i + 1) c fr' st'))) (putC n o.dst v fr)) none (stepD P call ops ab o fr st) := rfl
    rw [e] at h
    have hap' : Apart (L.map (·.1)) := fun j k a b d hjk h1 h2 => hap (j + 1) (k + 1) a b d (by omega) (by simpa using h1) (by simpa using h2)
    cases hs : stepD P call ops ab o fr st with
    | bad => rw [hs] at h; cases h
    | ok v st1 =>
      rw [hs] at h
      simp only [forceV_eq, forceS_eq] at h
      cases hp : putC n o.dst v fr with
      | none => rw [hp] at h; cases h
      | some fr1 =>
        rw [hp] at h
        simp only [bsel_eq] at h
        have hput := putC_some hp
        have hdn : ∀ d, o.dst = some d → d < n := fun d hd => by
          rcases hput with ⟨e, _⟩ | ⟨d', e, h', _⟩
          · rw [hd] at e; cases e
          · rw [hd] at e; cases e; exact h'
        -- what comes behind
        have key : ∀ (w : Bool) (trs' : List TR) (ch' chx : List St) (frf' : Fr) (stf' : St), isW P o = w → TrOK L P call n ops (i + 1) (c + if w then 1 else 0) fr1 st1 trs' ch' frf' stf' → chx = (if w then st :: ch' else ch') →
            TrOK ((o, ab) :: L) P call n ops i c fr st (⟨i, ab, o, w, c, fr, v, st, st1⟩ :: trs') chx frf' stf' := by
          intro w trs' ch' chx frf' stf' hw IH hchx
          refine ⟨by simp [IH.len], fun k o' ab' hk => ?_, rfl, fun k t hk => ?_, by rw [List.map_cons]; exact IH.fin.cons hap hput, ?_⟩
          · rw [List.map_cons]
            cases k with
            | zero =>
              simp at hk; obtain ⟨rfl, rfl⟩ := hk
              refine ⟨_, rfl, rfl, rfl, rfl, hw.symm, rfl, hdn, ⟨fun j _ _ _ hj => absurd hj (Nat.not_lt_zero _), fun p _ => rfl⟩, hs, fun hh => ?_⟩
              rw [hh] at hw; subst hw
              rw [hchx]; rfl
            | succ k =>
              simp only [List.getElem?_cons_succ] at hk
              obtain ⟨t, h1, h2, h2', h3, h4, h5, h6, h7, h9, h10⟩ := IH.at' k o' ab' hk
              refine ⟨t, by simpa using h1, by omega, h2', h3, h4, ?_, h6, h7.cons hap hput, h9, fun hw' => ?_⟩
              · rw [h5, cnt_cons, hw]; omega
              · rw [cnt_cons, hw, hchx]
                have := h10 hw'
                cases w
                · simpa using this
                · simp only [if_true]; rw [Nat.add_comm 1]; simpa using this
          · cases k with
            | zero =>
              simp at hk; subst hk
              have := IH.fst
              show st1 = preS _ _ _
              rw [← this]
              unfold preS
              simp
            | succ k =>
              have := IH.nxt k t (by simpa using hk)
              rw [this]
              unfold preS
              simp
          · rw [List.map_cons, List.length_cons, cnt_cons, hw, hchx]
            have := IH.chl
            cases w
            · simp [this]
            · simp [this]; omega
        cases hw : isW P o with
        | true =>
          rw [hw] at h
          simp only [if_true] at h
          cases ht : trace P call n ops L (i + 1) (c + 1) fr1 st1 with
          | none => rw [ht] at h; cases h
          | some r =>
            obtain ⟨trs', ch', frf', stf'⟩ := r
            rw [ht] at h; cases h
            exact key true _ _ _ _ _ hw (ih ht hap') rfl
        | false =>
          rw [hw] at h
          simp only [Bool.false_eq_true, if_false] at h
          cases ht : trace P call n ops L (i + 1) c fr1 st1 with
          | none => rw [ht] at h; cases h
          | some r =>
            obtain ⟨trs', ch', frf', stf'⟩ := r
            rw [ht] at h; cases h
            exact key false _ _ _ _ _ hw (ih ht hap') rfl
end
end Sim

/- Sim, part 24: every order comes to the same. -/
namespace Sim
open Go

noncomputable def dstIs (o : Oper) (p : Bp) : Bool := match o.dst with | some d => bpEq (Bp.enc d) p | none => false
noncomputable def looksOK (ops : Array Oper) (i : Nat) (x : CArg) : Bool :=
  match x with | .const _ => true | .tmp p => allL (idxL ops.toList 0) fun jo => bsel (dstIs jo.2 p) (bsel (Nat.ble (Nat.succ jo.1) i) (isAnc ops ops.size i jo.1) (Bool.and (Nat.ble (Nat.succ i) jo.1) (isAnc ops ops.size jo.1 i))) true
noncomputable def pairOK (P : Program) (ops : Array Oper) (i : Nat) (o : Oper) (j : Nat) (oj : Oper) : Bool :=
  bsel (Nat.ble (Nat.succ j) i) (Bool.and (match oj.dst with | some d => Bool.not (dstIs o (Bp.enc d)) | none => true) (bsel (Bool.and (isW P o) (isW P oj)) (isAnc ops ops.size i j) true)) true
noncomputable def statC (P : Program) (ops : Array Oper) : Bool :=
  allL (idxL ops.toList 0) fun io =>
    Bool.and (allL io.2.after.toList fun e => bsel (Region.binds .any e) (Nat.ble (Nat.succ e.on) io.1) true)
    (Bool.and (allL (looksL P ops io.2) fun x => looksOK ops io.1 x) (allL (idxL ops.toList 0) fun jo => pairOK P ops io.1 io.2 jo.1 jo.2))
section
variable {P : Program} {call : CallF} {n : Nat} {ops : Array Oper}
structure StatP (P : Program) (ops : Array Oper) : Prop where
  s1 : ∀ i o, ops.toList[i]? = some o → ∀ e ∈ o.after, Region.binds .any e = true → e.on < i
  s2 : ∀ i o, ops.toList[i]? = some o → ∀ p, CArg.tmp p ∈ looksL P ops o → ∀ j oj d, ops.toList[j]? = some oj → oj.dst = some d → Bp.enc d = p → (j < i ∧ isAnc ops ops.size i j = true) ∨ (i < j ∧ isAnc ops ops.size j i = true)
  s3 : Apart ops.toList
  s4 : ∀ i j o oj, ops.toList[i]? = some o → ops.toList[j]? = some oj → j < i → isW P o = true → isW P oj = true → isAnc ops ops.size i j = true
theorem statC_some (h : statC P ops = true) : StatP P ops := by
  unfold statC at h
  rw [allL_iff] at h
  have key : ∀ i o, ops.toList[i]? = some o → _ := fun i o ho => h (i, o) (by have := idxL_mem (i := 0) ho; simpa using this)
  refine ⟨fun i o ho e he hb => ?_, fun i o ho p hp j oj d hj hd hpe => ?_, fun j i oj o d hji hj ho hd hd' => ?_, fun i j o oj ho hj hji hw hwj => ?_⟩
  · have := key i o ho
    simp only [Bool.and_eq_true, allL_iff] at this
    have := this.1 e (by simpa using he)
    rw [hb] at this
    simpa [Nat.succ_le_iff] using this
  · have := key i o ho
    simp only [Bool.and_eq_true, allL_iff] at this
    have := this.2.1 _ hp
    unfold looksOK at this
    dsimp only at this
    rw [allL_iff] at this
    have := this (j, oj) (by have := idxL_mem (i := 0) hj; simpa using this)
    have hds : dstIs oj p = true := by unfold dstIs; rw [hd]; exact bpEq_iff.2 hpe
    simp only [hds, bsel_eq, if_true, Nat.ble_eq, Nat.succ_le_iff] at this
    split at this
    · rename_i hlt; exact .inl ⟨hlt, this⟩
    · simp only [Bool.and_eq_true, Nat.ble_eq, Nat.succ_le_iff] at this; exact .inr this
  · have := key i o ho
    simp only [Bool.and_eq_true, allL_iff] at this
    have := this.2.2 (j, oj) (by have := idxL_mem (i := 0) hj; simpa using this)
    unfold pairOK at this
    simp only [bsel_eq, Nat.ble_eq, Nat.succ_le_iff, if_pos hji, Bool.and_eq_true] at this
    have := this.1
    rw [hd] at this
    have hds : dstIs o (Bp.enc d) = true := by unfold dstIs; rw [hd']; exact bpEq_iff.2 rfl
    simp [hds] at this
  · have := key i o ho
    simp only [Bool.and_eq_true, allL_iff] at this
    have := this.2.2 (j, oj) (by have := idxL_mem (i := 0) hj; simpa using this)
    unfold pairOK at this
    simp only [bsel_eq, Nat.ble_eq, Nat.succ_le_iff, if_pos hji, Bool.and_eq_true] at this
    have := this.2
    simpa [hw, hwj] using this

/-- Readers read the same in every state in which they may come. -/
def DynP (P : Program) (call : CallF) (ops : Array Oper) (chain : List St) (trs : List TR) : Prop := ∀ (i : Nat) (t : TR), trs[i]? = some t → isW P t.o = false → isB P t.o = false → ∀ (c : Nat) (s : St), chain[c]? = some s →
    (∃ u ∈ trs, u.w = true ∧ u.c < c ∧ isAnc ops ops.size u.i t.i = true) ∨ (∃ u ∈ trs, u.w = true ∧ c ≤ u.c ∧ isAnc ops ops.size t.i u.i = true) ∨ ∃ s1, stepD P call ops t.ab t.o t.fr s = .ok t.v s1
/-- Writers that are not ordered with a late block leave it alone. -/
def LateP (P : Program) (ops : Array Oper) (as : List (Option Bp)) (chain : List St) (trs : List TR) : Prop := ∀ (j : Nat) (tj : TR) (b : Bp), trs[j]? = some tj → isB P tj.o = true → as[j]? = some (some b) → ∀ (d : Nat) (td : TR), trs[d]? = some td → isW P td.o = true →
    isAnc ops ops.size d j = false → isAnc ops ops.size j d = false → (d < j → ∀ s, chain[td.c]? = some s → s.mem.get b = none) ∧ (j < d → ∀ s s', chain[td.c]? = some s → chain[td.c + 1]? = some s' → s'.mem.get b = s.mem.get b)
theorem anc_lt (hst : StatP P ops) : ∀ (f i j : Nat), isAnc ops f i j = true → j < i := by
  intro f
  induction f with
  | zero => intro i j h; cases h
  | succ f ih =>
    intro i j h
    have e : isAnc ops (f + 1) i j = (match ops[i]? with
      | none => false
      | some o => anyL o.after.toList fun e => Bool.and (Region.binds .any e) (forceN e.on fun k => Bool.or (Nat.beq k j) (isAnc ops f k j))) := rfl
    rw [e] at h
    split at h
    · cases h
    · rename_i o ho
      rw [anyL_iff] at h
      obtain ⟨x, hx, h⟩ := h
      simp only [forceN_eq, Bool.and_eq_true, Bool.or_eq_true, Nat.beq_eq] at h
      have := hst.s1 i o (by simpa using ho) x (by simpa using hx) h.1
      rcases h.2 with h2 | h2
      · omega
      · have := ih _ _ h2; omega
open Classical in
theorem overlay (s : St) (f : Bp → Option Blk) : ∀ names : List Bp, ∃ M : St, M.next = s.next ∧ ∀ q, M.mem.get q = if q ∈ names then f q else s.mem.get q := by
  intro names
  induction names with
  | nil => exact ⟨s, rfl, fun q => by simp⟩
  | cons b names ih =>
    obtain ⟨M, h1, h2⟩ := ih
    refine ⟨⟨M.mem.put b (f b), M.next⟩, h1, fun q => ?_⟩
    show (M.mem.put b (f b)).get q = _
    rw [PT.get_put, h2]
    by_cases e : q = b
    · subst e; simp
    · simp [e]

/- how many are left -/
noncomputable def unl (N : Nat) (listed : Array Bool) : Nat := (List.range N).countP fun i => !listed.getD i true
theorem unl_set {N : Nat} {listed : Array Bool} {i : Nat} (hi : i < N) (hs : listed.size = N) (hu : listed.getD i true = false) : unl N (listed.setIfInBounds i true) < unl N listed := by
  unfold unl
  have key : ∀ (l : List Nat), i ∈ l → l.Nodup → l.countP (fun k => !(listed.setIfInBounds i true).getD k true) < l.countP (fun k => !listed.getD k true) := by
    have same : ∀ k, k ≠ i → (listed.setIfInBounds i true).getD k true = listed.getD k true := fun k hk => by simp [Array.getElem?_setIfInBounds_ne (Ne.symm hk)]
    have at_i : (listed.setIfInBounds i true).getD i true = true := by simp [hs, hi]
    intro l
    induction l with
    | nil => intro h; simp at h
    | cons k l ih =>
      intro h hn
      rw [List.nodup_cons] at hn
      rw [List.countP_cons, List.countP_cons]
      by_cases hk : k = i
      · subst hk
        have : l.countP (fun k' => !(listed.setIfInBounds k true).getD k' true) = l.countP (fun k' => !listed.getD k' true) := by
          apply List.countP_congr
          intro x hx
          rw [same x (fun e => hn.1 (e ▸ hx))]
        rw [this, at_i, hu]; simp
      · have hl : i ∈ l := by simpa [Ne.symm hk] using h
        have := ih hl hn.2
        rw [same k hk]; omega
  exact key _ (by simpa using hi) List.nodup_range

theorem lst_set {listed : Array Bool} {i j : Nat} (hi : i < listed.size) : Lst (listed.setIfInBounds i true) j ↔ j = i ∨ Lst listed j := by
  unfold Lst
  by_cases h : j = i
  · subst h; simp [hi]
  · simp [Array.getElem?_setIfInBounds_ne (Ne.symm h), h]
theorem ready_iff {listed : Array Bool} {i : Nat} (hs : listed.size = ops.size) : i ∈ Region.ready .any ops listed ↔ i < ops.size ∧ ¬ Lst listed i ∧ Deps ops listed i := by
  unfold Region.ready
  rw [List.mem_filter, List.mem_range]
  constructor
  · rintro ⟨h1, h2⟩
    simp only [Bool.and_eq_true, Bool.not_eq_true'] at h2
    refine ⟨h1, ?_, ?_⟩
    · unfold Lst
      have : listed.getD i false = listed.getD i true := by simp [hs, h1]
      rw [this, h2.1]; simp
    · intro o ho e he hb
      have := h2.2
      rw [ho] at this
      simp only [Option.map_some, Option.getD_some, Array.all_eq_true_iff_forall_mem] at this
      have := this e he
      rw [hb] at this
      simpa [Lst] using this
  · rintro ⟨h1, h2, h3⟩
    refine ⟨h1, ?_⟩
    simp only [Bool.and_eq_true, Bool.not_eq_true']
    constructor
    · unfold Lst at h2
      have : listed.getD i false = listed.getD i true := by simp [hs, h1]
      rw [this] at h2; simpa using h2
    · have ho : ops[i]? = some ops[i] := by simp
      rw [ho]
      simp only [Option.map_some, Option.getD_some, Array.all_eq_true_iff_forall_mem]
      intro e he
      cases hb : Region.binds .any e with
      | false => rfl
      | true => have := h3 _ ho e he hb; simpa [Lst] using this
theorem all_listed (hst : StatP P ops) {listed : Array Bool} (hs : listed.size = ops.size) (h : Region.ready .any ops listed = []) : ∀ i, i < ops.size → Lst listed i := by
  intro i
  induction i using Nat.strongRecOn with
  | _ i ih =>
    intro hi
    by_cases hl : Lst listed i
    · exact hl
    · have : i ∈ Region.ready .any ops listed := (ready_iff hs).2 ⟨hi, hl, fun o ho e he hb => by
        have := hst.s1 i o (by simpa using ho) e he hb
        exact ih _ this (by omega)⟩
      rw [h] at this; simp at this

structure Base (P : Program) (ops : Array Oper) (as : List (Option Bp)) (trs : List TR) (listed : Array Bool) (c : Nat) (ρ : Ren) (s M : St) : Prop where
  next : M.next = s.next
  late : ∀ (j : Nat) (t : TR) (b : Bp) (x : Nat × Nat), Lst listed j → trs[j]? = some t → isB P t.o = true → as[j]? = some (some b) → ρ b = some x → t.s.mem.get b = none ∧ (c < cnt P ops.toList j → M.mem.get b = t.s1.mem.get b ∧ s.mem.get b = none)
  old : ∀ (q : Bp) (x : Nat × Nat), ρ q = some x → (∀ (j : Nat) (t : TR), as[j]? = some (some q) → trs[j]? = some t → isB P t.o = true → ¬ c < cnt P ops.toList j) → M.mem.get q = s.mem.get q
structure Inv (P : Program) (ops : Array Oper) (as : List (Option Bp)) (trs : List TR) (ch : List St) (stf : St) (n : Nat) (ρ0 : Ren) (stA st0 : St) (fr0 : Fr) (w0 : World) (listed : Array Bool) (a : Act) (w : World) : Prop where
  size : listed.size = ops.size
  closed : ∀ i, Lst listed i → Deps ops listed i
  inner : ∀ i, Lst listed i → i < ops.size
  data : ∃ fr c ρ s M, FrP ops.toList trs (Lst listed) fr0 fr ∧ (∀ j o, ops.toList[j]? = some o → isW P o = true → (Lst listed j ↔ cnt P ops.toList j < c)) ∧ c ≤ ch.length ∧ (ch ++ [stf])[c]? = some s ∧ FR ρ fr a.tmps ∧ After ρ0 stA w0 ρ M w ∧ st0.next.dec ≤ s.next.dec ∧ (∀ j b, ¬ Lst listed j → as[j]? = some (some b) → ρ b = none) ∧ Base P ops as trs listed c ρ s M
  sz : n ≤ a.tmps.size
  defers : a.defers = []

variable {as : List (Option Bp)} {trs : List TR} {ch : List St} {ρ0 : Ren} {stA st0 stf : St} {fr0 frf : Fr} {w0 : World}

theorem zip_at {α β : Type} {l : List α} {as : List β} (h : as.length = l.length) {j : Nat} {o : α} (hj : l[j]? = some o) : ∃ ab, (l.zip as)[j]? = some (o, ab) ∧ as[j]? = some ab := by
  have hlt := (List.getElem?_eq_some_iff.1 hj).1
  refine ⟨as[j]'(by omega), ?_, by simp [h, hlt]⟩
  rw [List.getElem?_zip_eq_some]
  exact ⟨hj, by simp [h, hlt]⟩

section
variable (hpre : PreOK P ops.toList stA as st0) (htr : TrOK (ops.toList.zip as) P call n ops 0 0 fr0 st0 trs ch frf stf)
include hpre htr
theorem op_at {j : Nat} {o : Oper} (ho : ops.toList[j]? = some o) : ∃ t ab, trs[j]? = some t ∧ as[j]? = some ab ∧ t.i = j ∧ t.ab = ab ∧ t.o = o ∧ t.w = isW P o ∧ t.c = cnt P ops.toList j ∧ (∀ d, o.dst = some d → d < n) ∧ FrP ops.toList trs (· < j) fr0 t.fr ∧
    stepD P call ops ab o t.fr t.s = .ok t.v t.s1 ∧ (isW P o = true → (ch ++ [stf])[cnt P ops.toList j]? = some t.s) := by
  obtain ⟨ab, hz, hab⟩ := zip_at hpre.len ho
  have hmap : (ops.toList.zip as).map (·.1) = ops.toList := List.map_fst_zip (by rw [hpre.len]; exact Nat.le_refl _)
  obtain ⟨t, t1, t2, t3, t4, t5, t6, t7, t8, t9, t10⟩ := htr.at' j o ab hz
  rw [hmap] at t6 t8 t10
  refine ⟨t, ab, t1, hab, by omega, t3, t4, t5, by omega, t7, t8, t9, fun h => ?_⟩
  have := t10 h
  rw [List.getElem?_append_left (List.getElem?_eq_some_iff.1 this).1]; exact this
theorem tr_at {j : Nat} {t : TR} (ht : trs[j]? = some t) : ops.toList[j]? = some t.o := by
  have hzl : (ops.toList.zip as).length = ops.toList.length := by rw [List.length_zip, hpre.len]; simp
  have hj : j < ops.toList.length := by rw [← hzl, ← htr.len]; exact (List.getElem?_eq_some_iff.1 ht).1
  obtain ⟨t', ab, h1, _, _, _, h2, _⟩ := op_at hpre htr (List.getElem?_eq_getElem hj)
  rw [ht] at h1; cases h1
  rw [h2, List.getElem?_eq_getElem hj]
theorem trs_len : trs.length = ops.toList.length := by rw [htr.len, List.length_zip, hpre.len]; simp
theorem chl_eq : ch.length = cnt P ops.toList ops.toList.length := by
  have hmap : (ops.toList.zip as).map (·.1) = ops.toList := List.map_fst_zip (by rw [hpre.len]; exact Nat.le_refl _)
  have hzl : (ops.toList.zip as).length = ops.toList.length := by rw [List.length_zip, hpre.len]; simp
  have := htr.chl
  rw [hmap, hzl] at this; exact this
/-- Between writers only late blocks come. -/
theorem gap {k : Nat} : ∀ {k' : Nat}, k ≤ k' → k' ≤ ops.toList.length → (∀ j o, k ≤ j → j < k' → ops.toList[j]? = some o → isW P o = false) →
    (preS trs stf k').next = (preS trs stf k).next ∧ ∀ q, (∀ j t, k ≤ j → j < k' → trs[j]? = some t → isB P t.o = true → as[j]? ≠ some (some q)) → (preS trs stf k').mem.get q = (preS trs stf k).mem.get q := by
  intro k'
  induction k' with
  | zero => intro h _ _; have : k = 0 := by omega
            subst this; exact ⟨rfl, fun _ _ => rfl⟩
  | succ k' ih =>
    intro h hl hw
    by_cases hk : k = k' + 1
    · subst hk; exact ⟨rfl, fun _ _ => rfl⟩
    obtain ⟨i1, i2⟩ := ih (by omega) (by omega) (fun j o h1 h2 => hw j o h1 (by omega))
    have ho : ops.toList[k']? = some ops.toList[k'] := List.getElem?_eq_getElem (by omega)
    generalize ops.toList[k'] = o at ho
    obtain ⟨t, ab, h1, h2, h3, h4, h5, h6, h7, h8, h9, h10, h11⟩ := op_at hpre htr ho
    have hnx := htr.nxt k' t h1
    have hps : preS trs stf k' = t.s := by unfold preS; rw [h1]
    rw [← hnx, ← i1, hps]
    have hnw := hw k' o (by omega) (by omega) ho
    cases hb : isB P o with
    | false =>
      have := stepD_still hnw hb h10
      rw [this]
      exact ⟨rfl, fun q hq => by rw [← i2 q fun j t g1 g2 => hq j t g1 (by omega), hps]⟩
    | true =>
      obtain ⟨x, hx⟩ := isB_some hb
      obtain ⟨b, hbb⟩ := hpre.news k' o ho (.inr hb)
      rw [h2] at hbb; cases hbb
      rcases stepLate_inv hx h10 with ⟨_, _, e⟩ | ⟨_, s, _, _, _, e⟩
      · rw [e]
        exact ⟨rfl, fun q hq => by rw [← i2 q fun j t g1 g2 => hq j t g1 (by omega), hps]⟩
      · rw [e]
        refine ⟨rfl, fun q hq => ?_⟩
        have hne : q ≠ b := fun e => hq k' t (by omega) (by omega) h1 (by rw [h5]; exact hb) (by rw [h2, e])
        show (t.s.mem.put b _).get q = _
        rw [PT.get_put_ne _ _ _ _ hne, ← i2 q fun j t g1 g2 => hq j t g1 (by omega), hps]
/-- The next writer. -/
theorem next_at : ∀ (m k : Nat), k + m = ops.toList.length → ∃ k2, k ≤ k2 ∧ k2 ≤ ops.toList.length ∧ (∀ j o, k ≤ j → j < k2 → ops.toList[j]? = some o → isW P o = false) ∧ cnt P ops.toList k2 = cnt P ops.toList k ∧ (ch ++ [stf])[cnt P ops.toList k]? = some (preS trs stf k2) ∧
    (k2 = ops.toList.length ∨ ∃ o, ops.toList[k2]? = some o ∧ isW P o = true) := by
  intro m
  induction m with
  | zero =>
    intro k hk
    have : k = ops.toList.length := by omega
    refine ⟨k, Nat.le_refl _, by omega, fun j o h1 h2 => by omega, rfl, ?_, .inl this⟩
    rw [this, ← chl_eq hpre htr]
    have : preS trs stf ops.toList.length = stf := by unfold preS; rw [List.getElem?_eq_none (by rw [trs_len hpre htr]; exact Nat.le_refl _)]
    rw [this]; simp
  | succ m ih =>
    intro k hk
    have ho : ops.toList[k]? = some ops.toList[k] := List.getElem?_eq_getElem (by omega)
    generalize ops.toList[k] = o at ho
    cases hw : isW P o with
    | true =>
      obtain ⟨t, ab, h1, h2, h3, h4, h5, h6, h7, h8, h9, h10, h11⟩ := op_at hpre htr ho
      refine ⟨k, Nat.le_refl _, by omega, fun j o h1 h2 => by omega, rfl, ?_, .inr ⟨o, ho, hw⟩⟩
      rw [h11 hw]; unfold preS; rw [h1]
    | false =>
      have hc := cnt_succ (P := P) ho
      rw [hw] at hc
      simp only [Bool.false_eq_true, if_false, Nat.add_zero] at hc
      obtain ⟨k2, g1, g2, g3, g4, g5, g6⟩ := ih (k + 1) (by omega)
      refine ⟨k2, by omega, g2, fun j o' j1 j2 hj => ?_, by rw [g4, hc], by rw [← hc]; exact g5, g6⟩
      by_cases e : j = k
      · subst e; rw [ho] at hj; cases hj; exact hw
      · exact g3 j o' (by omega) j2 hj
/-- A late block as the next writer finds it. -/
theorem late_chain {j : Nat} {t : TR} {b : Bp} (ht : trs[j]? = some t) (hb : isB P t.o = true) (ha : as[j]? = some (some b)) : ∃ s, (ch ++ [stf])[cnt P ops.toList j]? = some s ∧ s.mem.get b = t.s1.mem.get b := by
  have ho := tr_at hpre htr ht
  have hjl := (List.getElem?_eq_some_iff.1 ho).1
  have hc := cnt_succ (P := P) ho
  rw [isB_isW hb] at hc
  simp only [Bool.false_eq_true, if_false, Nat.add_zero] at hc
  obtain ⟨k2, g1, g2, g3, g4, g5, g6⟩ := next_at hpre htr (ops.toList.length - (j + 1)) (j + 1) (by omega)
  rw [hc] at g5
  refine ⟨_, g5, ?_⟩
  rw [(gap hpre htr g1 g2 g3).2 b fun j' t' h1 h2 h3 h4 h5 => by have := hpre.uniq j j' b ha h5; omega, ← htr.nxt j t ht]
end

theorem Inv.done (hpre : PreOK P ops.toList stA as st0) (htr : TrOK (ops.toList.zip as) P call n ops 0 0 fr0 st0 trs ch frf stf) {listed : Array Bool} {a : Act} {w : World} (h : Inv P ops as trs ch stf n ρ0 stA st0 fr0 w0 listed a w) (hall : ∀ i, i < ops.size → Lst listed i) :
    Post ρ0 stA w0 n (.norm frf stf) .normal a w := by
  obtain ⟨fr, c, ρ, s, M, h1, h2, h3, h4, h5, h6, h7, h8, h9⟩ := h.data
  have hmap : (ops.toList.zip as).map (·.1) = ops.toList := List.map_fst_zip (by rw [hpre.len]; exact Nat.le_refl _)
  have hzl : (ops.toList.zip as).length = ops.toList.length := by rw [List.length_zip, hpre.len]; simp
  have hc : c = ch.length := by
    by_cases hlt : c < ch.length
    · rw [chl_eq hpre htr] at hlt
      obtain ⟨j, o, g1, g2, g3, g4⟩ := cnt_onto (P := P) (l := ops.toList) ops.toList.length (Nat.le_refl _) c hlt
      have := (h2 j o g2 g3).1 (hall j (by simpa using g1))
      omega
    · omega
  subst hc
  have hs : s = stf := by
    rw [List.getElem?_append_right (Nat.le_refl _)] at h4
    simp at h4; exact h4.symm
  subst hs
  have hA : After ρ0 stA w0 ρ s w := h6.silent (fun q x hx => (h9.old q x hx fun j t _ ht hb hlt => by
    have ho := tr_at hpre htr ht
    have hjl := (List.getElem?_eq_some_iff.1 ho).1
    have := cnt_mono (P := P) (l := ops.toList) (Nat.le_of_lt hjl)
    have := chl_eq hpre htr
    omega).symm) h9.next.symm
  refine ⟨rfl, ρ, ⟨fun t => ?_, h.sz, h.defers, hA⟩⟩
  have : fget frf (Bp.enc t) = fget fr (Bp.enc t) := by
    have hfin := htr.fin
    rw [hmap] at hfin
    by_cases hd : ∃ (j : Nat) (o : Oper) (d : Tmp), ops.toList[j]? = some o ∧ o.dst = some d ∧ d = t
    · obtain ⟨j, o, d, g1, g2, rfl⟩ := hd
      have hj : j < ops.toList.length := (List.getElem?_eq_some_iff.1 g1).1
      obtain ⟨t', _, g3, _⟩ := op_at hpre htr g1
      rw [hfin.1 j o d t' (by show j < _; rw [hzl]; exact hj) g1 g2 g3, h1.1 j o d t' (hall j (by simpa using hj)) g1 g2 g3]
    · rw [hfin.2, h1.2]
      · exact fun j o d _ g1 g2 e => hd ⟨j, o, d, g1, g2, Bp.enc_inj e⟩
      · exact fun j o d _ g1 g2 e => hd ⟨j, o, d, g1, g2, Bp.enc_inj e⟩
  rw [this]; exact h5 t

theorem Base.sub {listed : Array Bool} {c : Nat} {ρ : Ren} {s M : St} (h : Base P ops as trs listed c ρ s M) (hp : ∀ j b, ¬ Lst listed j → as[j]? = some (some b) → ρ b = none) : ∀ q x, ρ q = some x → s.mem.get q = M.mem.get q ∨ s.mem.get q = none := by
  intro q x hx
  by_cases hh : ∃ (j : Nat) (t : TR), as[j]? = some (some q) ∧ trs[j]? = some t ∧ isB P t.o = true ∧ c < cnt P ops.toList j
  · obtain ⟨j, t, g1, g2, g3, g4⟩ := hh
    by_cases hl : Lst listed j
    · exact .inr ((h.late j t q x hl g2 g3 g1 hx).2 g4).2
    · rw [hp j q hl g1] at hx; cases hx
  · exact .inl (h.old q x hx fun j t g1 g2 g3 g4 => hh ⟨j, t, g1, g2, g3, g4⟩).symm
def LateAt (P : Program) (ops : Array Oper) (as : List (Option Bp)) (trs : List TR) (listed : Array Bool) (c : Nat) (ρ : Ren) (q : Bp) : Prop := ∃ (j : Nat) (t : TR) (x : Nat × Nat), Lst listed j ∧ trs[j]? = some t ∧ isB P t.o = true ∧ as[j]? = some (some q) ∧ c < cnt P ops.toList j ∧ ρ q = some x
open Classical in
/-- A step at the base, and what lies beyond it. -/
theorem Base.step {listed : Array Bool} {c : Nat} {ρ ρ' : Ren} {s s1 M : St} {w w' : World} (h : Base P ops as trs listed c ρ s M) (hp : ∀ j b, ¬ Lst listed j → as[j]? = some (some b) → ρ b = none) (h6 : After ρ0 stA w0 ρ M w) (hA : After ρ s w ρ' s1 w')
    (_ : ∀ q, LateAt P ops as trs listed c ρ q → s1.mem.get q = none) : ∃ M1, After ρ0 stA w0 ρ' M1 w' ∧ M1.next = s1.next ∧ ∀ q, M1.mem.get q = if LateAt P ops as trs listed c ρ q then M.mem.get q else s1.mem.get q := by
  obtain ⟨M1, g1, g2⟩ := overlay s1 (fun q => if LateAt P ops as trs listed c ρ q then M.mem.get q else s1.mem.get q) (as.filterMap id)
  have g3 : ∀ q, M1.mem.get q = if LateAt P ops as trs listed c ρ q then M.mem.get q else s1.mem.get q := by
    intro q
    rw [g2]
    by_cases hq : q ∈ as.filterMap id
    · rw [if_pos hq]
    · rw [if_neg hq, if_neg]
      rintro ⟨j, t, x, _, _, _, k1, _⟩
      refine hq (List.mem_filterMap.2 ⟨some q, List.mem_of_getElem? k1, rfl⟩)
  refine ⟨M1, h6.trans (After.frame h6.wr h.next.symm (h.sub hp) hA g1 fun q x hx => ?_), g1, g3⟩
  by_cases hl : LateAt P ops as trs listed c ρ q
  · right
    obtain ⟨j, t, y, k1, k2, k3, k4, k5, k6⟩ := hl
    have hl : LateAt P ops as trs listed c ρ q := ⟨j, t, y, k1, k2, k3, k4, k5, k6⟩
    exact ⟨⟨y, k6⟩, ((h.late j t q y k1 k2 k3 k4 k6).2 k5).2, by rw [g3, if_pos hl]⟩
  · left; rw [g3, if_neg hl]

open Classical in
theorem Inv.step (hc : CallSound P call) (hst : StatP P ops) (hpre : PreOK P ops.toList stA as st0) (htr : TrOK (ops.toList.zip as) P call n ops 0 0 fr0 st0 trs ch frf stf) (hdy : DynP P call ops (ch ++ [stf]) trs) (hlt : LateP P ops as (ch ++ [stf]) trs) {listed : Array Bool} {a : Act} {w : World}
    (h : Inv P ops as trs ch stf n ρ0 stA st0 fr0 w0 listed a w) {i : Nat} (hi : i ∈ Region.ready .any ops listed) {K : Act → World → Prop} {Q : Exit → Act → World → Prop}
    (hK : ∀ a' w', Inv P ops as trs ch stf n ρ0 stA st0 fr0 w0 (listed.setIfInBounds i true) a' w' → K a' w') : wpOp P ops Q i K a w := by
  obtain ⟨hin, hnl, hdeps⟩ := (ready_iff h.size).1 hi
  obtain ⟨fr, c, ρ, s, M, h1, h2, h3, h4, h5, h6, h7, h8, h9⟩ := h.data
  have ho : ops[i]? = some ops[i] := by simp
  generalize ops[i] = o at ho
  have ho' : ops.toList[i]? = some o := by simpa using ho
  obtain ⟨t, ab, t1, hab, t2, t2', t3, t4, t5, t6, t7, t9, t10⟩ := op_at hpre htr ho'
  have hanc : ∀ j, isAnc ops ops.size i j = true → Lst listed j := fun j hj => anc_listed h.closed _ _ _ hj hdeps
  have hanc' : ∀ j k, isAnc ops ops.size k j = true → Lst listed k → Lst listed j := fun j k hj hk => anc_listed h.closed _ _ _ hj (h.closed k hk)
  have hls : i < listed.size := by rw [h.size]; exact hin
  -- what is looked at
  have hlook : ∀ x ∈ looksL P ops o, ev fr x = ev t.fr x := by
    intro x hx
    cases x with
    | const v => rfl
    | tmp p =>
      show fget fr p = fget t.fr p
      by_cases hd : ∃ (j : Nat) (oj : Oper) (d : Tmp), ops.toList[j]? = some oj ∧ oj.dst = some d ∧ Bp.enc d = p
      · obtain ⟨j, oj, d, g1, g2, g3⟩ := hd
        have huniq : ∀ (j' : Nat) (o' : Oper) (d' : Tmp), ops.toList[j']? = some o' → o'.dst = some d' → Bp.enc d' = p → j' = j := by
          intro j' o' d' k1 k2 k3
          have : d' = d := Bp.enc_inj (by rw [k3, g3])
          subst this
          rcases Nat.lt_trichotomy j' j with hlt | heq | hgt
          · exact absurd g2 (hst.s3 j' j o' oj d' hlt k1 g1 k2)
          · exact heq
          · exact absurd k2 (hst.s3 j j' oj o' d' hgt g1 k1 g2)
        rcases hst.s2 i o ho' p hx j oj d g1 g2 g3 with ⟨g4, g5⟩ | ⟨g4, g5⟩
        · obtain ⟨tj, _, g6, _⟩ := op_at hpre htr g1
          subst g3
          rw [h1.1 j oj d tj (hanc j g5) g1 g2 g6, t7.1 j oj d tj g4 g1 g2 g6]
        · rw [h1.2, t7.2]
          · intro j' o' d' k0 k1 k2 k3
            have := huniq j' o' d' k1 k2 k3
            have k0 : j' < i := k0
            omega
          · intro j' o' d' k0 k1 k2 k3
            have := huniq j' o' d' k1 k2 k3
            subst this
            exact hnl (hanc' i j' g5 k0)
      · rw [h1.2, t7.2]
        · exact fun j o d _ g1 g2 e => hd ⟨j, o, d, g1, g2, e⟩
        · exact fun j o d _ g1 g2 e => hd ⟨j, o, d, g1, g2, e⟩
  -- what is left when the step is done
  have fin : ∀ v' w' ρ' c2 s2 M2, VR ρ' t.v v' → ρ.le ρ' → (∀ j oj, ops.toList[j]? = some oj → isW P oj = true → (j = i ∨ Lst listed j ↔ cnt P ops.toList j < c2)) → c2 ≤ ch.length → (ch ++ [stf])[c2]? = some s2 → After ρ0 stA w0 ρ' M2 w' → st0.next.dec ≤ s2.next.dec →
      (∀ j b, ¬ Lst (listed.setIfInBounds i true) j → as[j]? = some (some b) → ρ' b = none) → Base P ops as trs (listed.setIfInBounds i true) c2 ρ' s2 M2 → K (a.put o.dst v') w' := by
    intro v' w' ρ' c2 s2 M2 hv hle k4 k3 k2 hA k7 k8 k9
    refine hK _ _ {
      size := by simp [h.size]
      closed := fun j hj o' hoj e he hb => by
        rw [lst_set hls] at hj ⊢
        rcases hj with rfl | hj
        · exact .inr (hdeps o' hoj e he hb)
        · exact .inr (h.closed j hj o' hoj e he hb)
      inner := fun j hj => by
        rw [lst_set hls] at hj
        rcases hj with rfl | hj
        · exact hin
        · exact h.inner j hj
      data := by
        cases hd : o.dst with
        | none =>
          refine ⟨fr, c2, ρ', s2, M2, ⟨fun j oj d tj g1 g2 g3 g4 => ?_, fun p hp => h1.2 p fun j oj d g1 => hp j oj d ((lst_set hls).2 (.inr g1))⟩, fun j oj g1 g2 => ?_, k3, k2, h5.mono hle, hA, k7, k8, k9⟩
          · rcases (lst_set hls).1 g1 with rfl | g1
            · rw [ho'] at g2; cases g2; rw [hd] at g3; cases g3
            · exact h1.1 j oj d tj g1 g2 g3 g4
          · rw [lst_set hls]; exact k4 j oj g1 g2
        | some d =>
          refine ⟨fr.put (Bp.enc d) (some t.v), c2, ρ', s2, M2, ⟨fun j oj d' tj g1 g2 g3 g4 => ?_, fun p hp => ?_⟩, fun j oj g1 g2 => ?_, k3, k2, (h5.mono hle).putO (Nat.lt_of_lt_of_le (t6 d hd) h.sz) hv, hA, k7, k8, k9⟩
          · rcases (lst_set hls).1 g1 with rfl | g1
            · rw [ho'] at g2; cases g2; rw [hd] at g3; cases g3; rw [t1] at g4; cases g4
              exact fget_put_same _ _ _
            · have g1' : Lst listed j := g1
              rw [fget_put_ne]
              · exact h1.1 j oj d' tj g1 g2 g3 g4
              · intro e
                have := Bp.enc_inj e; subst this
                rcases Nat.lt_trichotomy j i with hlt | heq | hgt
                · exact hst.s3 j i oj o d' hlt g2 ho' g3 hd
                · rw [heq] at g1'; exact hnl g1'
                · exact hst.s3 i j o oj d' hgt ho' g2 hd g3
          · rw [fget_put_ne]
            · exact h1.2 p fun j oj d' g1 => hp j oj d' ((lst_set hls).2 (.inr g1))
            · exact fun e => hp i o d ((lst_set hls).2 (.inl rfl)) ho' hd e.symm
          · rw [lst_set hls]; exact k4 j oj g1 g2
      sz := by rw [put_size]; exact h.sz
      defers := by rw [put_defers]; exact h.defers }
  -- a step that is no writer leaves the writers as they were
  have hsame : isW P o = false → ∀ j oj, ops.toList[j]? = some oj → isW P oj = true → (j = i ∨ Lst listed j ↔ cnt P ops.toList j < c) := fun hw j oj g1 g2 => by
    rw [h2 j oj g1 g2]
    constructor
    · rintro (e | e)
      · subst e; rw [ho'] at g1; cases g1; rw [hw] at g2; cases g2
      · exact e
    · exact .inr
  have hunl : ∀ j b, ¬ Lst (listed.setIfInBounds i true) j → as[j]? = some (some b) → j ≠ i ∧ ρ b = none := fun j b hj hb => by
    rw [lst_set hls] at hj
    exact ⟨fun e => hj (.inl e), h8 j b (fun hh => hj (.inr hh)) hb⟩
  have hlate : ∀ j, Lst (listed.setIfInBounds i true) j → j ≠ i → Lst listed j := fun j hj hne => by
    rcases (lst_set hls).1 hj with e | e
    · exact absurd e hne
    · exact e
  unfold wpOp
  rw [ho]
  dsimp only
  suffices hgo : (if Region.wanted o (yielded ops a.tmps) then Oper.wp P o a w K Q else K (a.put o.dst undef) w) by
    split
    · rename_i hwt; rw [if_pos hwt] at hgo; exact .inl hgo
    · rename_i hwt; rw [if_neg hwt] at hgo; exact hgo
  cases hnew : newF P o with
  | some tz =>
    -- a block laid ahead
    obtain ⟨b, hb⟩ := hpre.news i o ho' (.inl (by rw [hnew]; simp))
    rw [hab] at hb; cases hb
    have hr := hpre.range i b hab
    have hbn := h8 i b hnl hab
    have hw : isW P o = false := by unfold isW; rw [hnew]
    have hB : isB P o = false := by unfold isB; rw [newF_late (by rw [hnew]; simp)]
    have huj : ∀ u ∈ trs, u.w = true → ∃ j oj, ops.toList[j]? = some oj ∧ isW P oj = true ∧ u.i = j ∧ u.c = cnt P ops.toList j := by
      intro u hu huw
      obtain ⟨j, hj, rfl⟩ := List.getElem_of_mem hu
      have hoj := tr_at hpre htr (List.getElem?_eq_getElem hj)
      obtain ⟨tj, _, g1, _, g2, _, _, g3, g4, _⟩ := op_at hpre htr hoj
      rw [List.getElem?_eq_getElem hj] at g1; cases g1
      exact ⟨j, _, hoj, by rw [← g3]; exact huw, g2, g4⟩
    have hstep : ∃ s1, stepD P call ops (some b) o fr s = .ok t.v s1 := by
      rw [stepD_congr hlook]
      rcases hdy i t t1 (by rw [t3]; exact hw) (by rw [t3]; exact hB) c s h4 with ⟨u, g1, g2, g3, g4⟩ | ⟨u, g1, g2, g3, g4⟩ | ⟨s2, g⟩
      · obtain ⟨j, oj, k1, k2, k3, k4⟩ := huj u g1 g2
        rw [t2, k3] at g4
        exact absurd (hanc' i j g4 ((h2 j oj k1 k2).2 (by omega))) hnl
      · obtain ⟨j, oj, k1, k2, k3, k4⟩ := huj u g1 g2
        rw [t2, k3] at g4
        have := (h2 j oj k1 k2).1 (hanc j g4)
        omega
      · rw [t3, t2'] at g; exact ⟨s2, g⟩
    obtain ⟨sx, hsx⟩ := hstep
    obtain ⟨M2, m1, m2⟩ := overlay M (fun _ => s.mem.get b) [b]
    have m3 : ∀ q x, ρ q = some x → M2.mem.get q = M.mem.get q := fun q x hx => by
      rw [m2, if_neg (fun e => by have := List.mem_singleton.1 e; subst this; rw [hbn] at hx; cases hx)]
    have hA2 := h6.silent m3 m1
    refine stepNew_sound hnew hsx (by rw [m2, if_pos (by simp)]) hA2 h5 hbn (by rw [m1, h9.next]; omega) (by omega) fun v' w' ρ' hv hA hle hq => fin v' w' ρ' c s M2 hv hle (hsame hw) h3 h4 hA h7 (fun j b' hj hb' => ?_) ⟨by rw [m1]; exact h9.next, fun j t' b' x hj ht' hb' ha hx => ?_, fun q x hx hno => ?_⟩
    · obtain ⟨k1, k2⟩ := hunl j b' hj hb'
      rw [hq b' (fun e => k1 (hpre.uniq j i b' hb' (by rw [e]; exact hab)))]
      exact k2
    · have hji : j ≠ i := fun e => by subst e; rw [t1] at ht'; cases ht'; rw [t3, hB] at hb'; cases hb'
      have hne : b' ≠ b := fun e => hji (hpre.uniq j i b' ha (by rw [e]; exact hab))
      rw [hq b' hne] at hx
      obtain ⟨k1, k2⟩ := h9.late j t' b' x (hlate j hj hji) ht' hb' ha hx
      exact ⟨k1, fun hcj => by rw [m3 b' x hx]; exact k2 hcj⟩
    · by_cases e : q = b
      · subst e; rw [m2, if_pos (by simp)]
      · rw [hq q e] at hx
        rw [m3 q x hx]
        exact h9.old q x hx hno
  | none =>
    cases hlf : lateF P o with
    | some x =>
      -- a late block
      have hB : isB P o = true := by unfold isB; rw [hlf]
      obtain ⟨b, hb⟩ := hpre.news i o ho' (.inr hB)
      rw [hab] at hb; cases hb
      have hr := hpre.range i b hab
      have hbn := h8 i b hnl hab
      have hw := isB_isW hB
      rw [← stepD_congr hlook] at t9
      rcases stepLate_inv hlf t9 with ⟨g1, g2, g3⟩ | ⟨g1, sx, g2, g3, g4, g5⟩
      · rw [if_neg (by rw [wantedC_sound g1 h5]; simp)]
        refine fin undef w ρ c s M (by rw [g2]; exact .undef) (fun _ _ h => h) (hsame hw) h3 h4 h6 h7 (fun j b' hj hb' => (hunl j b' hj hb').2) ⟨h9.next, fun j t' b' y hj ht' hb' ha hy => ?_, h9.old⟩
        by_cases hji : j = i
        · subst hji; rw [hab] at ha; cases ha; rw [hbn] at hy; cases hy
        · exact h9.late j t' b' y (hlate j hj hji) ht' hb' ha hy
      · rw [if_pos (wantedC_sound g1 h5)]
        obtain ⟨e, len, z, ps⟩ := x
        obtain ⟨l, l1, l2⟩ := late_run hlf h5 g2
        have hcont : t.s1.mem.get b = some (.cells sx e false) := by rw [g5]; exact PT.get_put_same _ _ _
        -- what the base has there
        have hbase : (c < cnt P ops.toList i → s.mem.get b = none) ∧ (¬ c < cnt P ops.toList i → s.mem.get b = some (.cells sx e false)) := by
          constructor
          · intro hcl
            obtain ⟨d, od, d1, d2, d3, d4⟩ := cnt_onto (P := P) (l := ops.toList) i (Nat.le_of_lt (by simpa using hin)) c hcl
            obtain ⟨td, _, e1, _, e2, _, e3, e4, e5, _⟩ := op_at hpre htr d2
            have hdl : ¬ Lst listed d := fun hh => by have := (h2 d od d2 d3).1 hh; omega
            have a1 : isAnc ops ops.size d i = false := by
              cases hh : isAnc ops ops.size d i with
              | false => rfl
              | true => have := anc_lt hst _ _ _ hh; omega
            have a2 : isAnc ops ops.size i d = false := by
              cases hh : isAnc ops ops.size i d with
              | false => rfl
              | true => exact absurd (hanc d hh) hdl
            exact (hlt i t b t1 (by rw [t3]; exact hB) hab d td e1 (by rw [e3]; exact d3) a1 a2).1 d1 s (by rw [e5, d4]; exact h4)
          · intro hcl
            obtain ⟨sj, j1, j2⟩ := late_chain hpre htr t1 (by rw [t3]; exact hB) hab
            have key : ∀ m s', cnt P ops.toList i + m ≤ c → (ch ++ [stf])[cnt P ops.toList i + m]? = some s' → s'.mem.get b = some (.cells sx e false) := by
              intro m
              induction m with
              | zero => intro s' _ hs'; rw [Nat.add_zero, j1] at hs'; cases hs'; rw [j2, hcont]
              | succ m ih =>
                intro s' hm hs'
                have hlen := (List.getElem?_eq_some_iff.1 hs').1
                obtain ⟨s0, hs0⟩ : ∃ s0, (ch ++ [stf])[cnt P ops.toList i + m]? = some s0 := ⟨_, List.getElem?_eq_getElem (by omega)⟩
                have hcl2 : cnt P ops.toList i + m < cnt P ops.toList ops.toList.length := by rw [← chl_eq hpre htr]; omega
                obtain ⟨d, od, d1, d2, d3, d4⟩ := cnt_onto (P := P) (l := ops.toList) ops.toList.length (Nat.le_refl _) _ hcl2
                obtain ⟨td, _, e1, _, e2, _, e3, e4, e5, _⟩ := op_at hpre htr d2
                have hdl : Lst listed d := (h2 d od d2 d3).2 (by omega)
                have hid : i < d := by
                  rcases Nat.lt_trichotomy i d with hh | hh | hh
                  · exact hh
                  · subst hh; exact absurd hdl hnl
                  · have := cnt_succ (P := P) d2
                    rw [d3] at this
                    simp only [if_true] at this
                    have := cnt_mono (P := P) (l := ops.toList) (show d + 1 ≤ i by omega)
                    omega
                have a1 : isAnc ops ops.size d i = false := by
                  cases hh : isAnc ops ops.size d i with
                  | false => rfl
                  | true => exact absurd (hanc' i d hh hdl) hnl
                have a2 : isAnc ops ops.size i d = false := by
                  cases hh : isAnc ops ops.size i d with
                  | false => rfl
                  | true => have := anc_lt hst _ _ _ hh; omega
                rw [(hlt i t b t1 (by rw [t3]; exact hB) hab d td e1 (by rw [e3]; exact d3) a1 a2).2 hid s0 s' (by rw [e5, d4]; exact hs0) (by rw [e5, d4]; exact hs')]
                exact ih s0 (by omega) hs0
            have hci := key (c - cnt P ops.toList i) s (by omega) (by rw [show cnt P ops.toList i + (c - cnt P ops.toList i) = c by omega]; exact h4)
            exact hci
        obtain ⟨M2, m1, m2⟩ := overlay M (fun _ => some (.cells sx e false)) [b]
        have m3 : ∀ q x, ρ q = some x → M2.mem.get q = M.mem.get q := fun q x hx => by
          rw [m2, if_neg (fun e => by have := List.mem_singleton.1 e; subst this; rw [hbn] at hx; cases hx)]
        have m4 : M2.mem.get b = some (.cells sx e false) := by rw [m2, if_pos (by simp)]
        have hA2 := (h6.silent m3 m1).come m4 hbn (by rw [m1, h9.next]; omega) l1 (by omega)
        have hq : ∀ q, q ≠ b → ρ.set b (w.heap.size, l.length) q = ρ q := fun q hq => Ren.set_ne _ _ _ _ hq
        unfold Oper.wp
        rw [l2 w]
        refine fin (.slice (some ⟨w.heap.size, 0, none⟩) len len) _ (ρ.set b (w.heap.size, l.length)) c s M2 (by rw [g4]; exact .slice _ _ _ _ _ _ (Ren.set_same ρ b _)) (fun q x hx => by rw [hq q (fun e => by subst e; rw [hbn] at hx; cases hx)]; exact hx) (hsame hw) h3 h4 hA2 h7 (fun j b' hj hb' => ?_) ⟨by rw [m1]; exact h9.next, fun j t' b' y hj ht' hb' ha hy => ?_, fun q y hy hno => ?_⟩
        · obtain ⟨k1, k2⟩ := hunl j b' hj hb'
          rw [hq b' (fun e => k1 (hpre.uniq j i b' hb' (by rw [e]; exact hab)))]
          exact k2
        · by_cases hji : j = i
          · subst hji; rw [hab] at ha; cases ha; rw [t1] at ht'; cases ht'
            exact ⟨g3, fun hcj => ⟨by rw [m4, hcont], hbase.1 hcj⟩⟩
          · have hne : b' ≠ b := fun e => hji (hpre.uniq j i b' ha (by rw [e]; exact hab))
            rw [hq b' hne] at hy
            obtain ⟨k1, k2⟩ := h9.late j t' b' y (hlate j hj hji) ht' hb' ha hy
            exact ⟨k1, fun hcj => by rw [m3 b' y hy]; exact k2 hcj⟩
        · by_cases e' : q = b
          · subst e'
            rw [m4, hbase.2 (hno i t hab t1 (by rw [t3]; exact hB))]
          · rw [hq q e'] at hy
            rw [m3 q y hy]
            exact h9.old q y hy hno
    | none =>
      have hB : isB P o = false := by unfold isB; rw [hlf]
      have hwr : WR ρ s w := h6.wr.sub (h9.sub h8) h9.next.symm
      cases hw : isW P o with
      | true =>
        -- a writer
        have hle : ¬ cnt P ops.toList i < c := fun hh => hnl ((h2 i o ho' hw).2 hh)
        have hcw : c = cnt P ops.toList i := by
          by_cases hlt : c < cnt P ops.toList i
          · have hil : i ≤ ops.toList.length := by simp; omega
            obtain ⟨j, oj, g1, g2, g3, g4⟩ := cnt_onto (P := P) (l := ops.toList) i hil c hlt
            have := (h2 j oj g2 g3).1 (hanc j (hst.s4 i j o oj ho' g2 g1 hw g3))
            omega
          · omega
        subst hcw
        have hts := t10 hw
        rw [h4] at hts; cases hts
        rw [← stepD_congr hlook] at t9
        obtain ⟨_, hsc⟩ := stepC_of_stepD hnew hlf t9
        have hcs := cnt_succ (P := P) ho'
        rw [hw] at hcs
        simp only [if_true] at hcs
        have hil : i < ops.toList.length := by simpa using hin
        obtain ⟨k2, n1, n2, n3, n4, n5, n6⟩ := next_at hpre htr (ops.toList.length - (i + 1)) (i + 1) (by omega)
        rw [hcs] at n5
        obtain ⟨gn, gm⟩ := gap hpre htr n1 n2 n3
        have hps : preS trs stf (i + 1) = t.s1 := (htr.nxt i t t1).symm
        rw [hps] at gn gm
        -- late blocks beyond the next writer are not there yet
        have hfar : ∀ q j t' x, Lst listed j → trs[j]? = some t' → isB P t'.o = true → as[j]? = some (some q) → ρ q = some x → k2 < j → (preS trs stf k2).mem.get q = none := by
          intro q j t' x j1 j2 j3 j4 j5 j6
          rcases n6 with e | ⟨od, e1, e2⟩
          · have := (List.getElem?_eq_some_iff.1 j2).1
            rw [trs_len hpre htr] at this; omega
          · obtain ⟨td, _, d1, _, d2, _, d3, d4, d5, _⟩ := op_at hpre htr e1
            have hdl : ¬ Lst listed k2 := fun hh => by have := (h2 k2 od e1 e2).1 hh; omega
            have a1 : isAnc ops ops.size k2 j = false := by
              cases hh : isAnc ops ops.size k2 j with
              | false => rfl
              | true => have := anc_lt hst _ _ _ hh; omega
            have a2 : isAnc ops ops.size j k2 = false := by
              cases hh : isAnc ops ops.size j k2 with
              | false => rfl
              | true => exact absurd (hanc' k2 j hh j1) hdl
            exact (hlt j t' q j2 j3 j4 k2 td d1 (by rw [d3]; exact e2) a1 a2).1 j6 _ (by rw [d5, n4, hcs]; exact n5)
        have hpos : ∀ {j : Nat} {t' : TR}, trs[j]? = some t' → isB P t'.o = true → cnt P ops.toList i < cnt P ops.toList j → i + 1 ≤ j := by
          intro j t' _ _ j3
          rcases Nat.lt_or_ge i j with hh | hh
          · omega
          · have := cnt_mono (P := P) (l := ops.toList) hh; omega
        have hnoW : ∀ {j : Nat} {t' : TR}, trs[j]? = some t' → isB P t'.o = true → j ≠ k2 := by
          intro j t' j1 j2 e
          subst e
          rcases n6 with e | ⟨od, e1, e2⟩
          · have := (List.getElem?_eq_some_iff.1 j1).1
            rw [trs_len hpre htr] at this; omega
          · have := tr_at hpre htr j1
            rw [e1] at this; cases this
            rw [isB_isW j2] at e2; cases e2
        refine stepC_sound hc hsc hwr h5 fun v' w' ρ' hv hA => ?_
        have hnone : ∀ q, LateAt P ops as trs listed (cnt P ops.toList i) ρ q → t.s1.mem.get q = none := by
          rintro q ⟨j, t', x, j1, j2, j3, j4, j5, j6⟩
          have hij := hpos j2 j3 j5
          rcases Nat.lt_or_ge j k2 with hjk | hjk
          · have hg := (gap hpre htr (k := i + 1) (k' := j) hij (by omega) (fun j' o' q1 q2 => n3 j' o' q1 (by omega))).2 q (fun j' t'' q1 q2 q3 q4 q5 => by have := hpre.uniq j j' q j4 q5; omega)
            rw [hps] at hg
            rw [← hg]
            have : preS trs stf j = t'.s := by unfold preS; rw [j2]
            rw [this]
            exact (h9.late j t' q x j1 j2 j3 j4 j6).1
          · rw [← gm q fun j' t'' q1 q2 q3 q4 q5 => by have := hpre.uniq j j' q j4 q5; omega]
            exact hfar q j t' x j1 j2 j3 j4 j6 (by have := hnoW j2 j3; omega)
        obtain ⟨M1, b1, b2, b3⟩ := h9.step h8 h6 hA hnone
        -- the base goes on to the next writer
        have hdom : ∀ q j, as[j]? = some (some q) → ρ q = none → ρ' q = none := fun q j hj hq => hA.dom q (by have := hpre.range j q hj; omega) hq
        have hback : ∀ q j x, as[j]? = some (some q) → ρ' q = some x → ∃ y, ρ q = some y := fun q j x hj hx => by
          cases hq : ρ q with
          | some y => exact ⟨y, rfl⟩
          | none => rw [hdom q j hj hq] at hx; cases hx
        obtain ⟨M2, m1, m2⟩ := overlay (preS trs stf k2) (fun q => if LateAt P ops as trs listed (cnt P ops.toList i + 1) ρ q then M.mem.get q else (preS trs stf k2).mem.get q) (as.filterMap id)
        have m3 : ∀ q, M2.mem.get q = if LateAt P ops as trs listed (cnt P ops.toList i + 1) ρ q then M.mem.get q else (preS trs stf k2).mem.get q := by
          intro q
          rw [m2]
          by_cases hq : q ∈ as.filterMap id
          · rw [if_pos hq]
          · rw [if_neg hq, if_neg]
            rintro ⟨j, t, x, _, _, _, k1, _⟩
            exact hq (List.mem_filterMap.2 ⟨some q, List.mem_of_getElem? k1, rfl⟩)
        have hA2 : After ρ0 stA w0 ρ' M2 w' := by
          refine b1.silent (fun q x hx => ?_) (by rw [m1, b2, gn])
          rw [m3, b3]
          by_cases hq : ∃ (j : Nat) (t' : TR), as[j]? = some (some q) ∧ trs[j]? = some t' ∧ isB P t'.o = true
          · obtain ⟨j, t', j1, j2, j3⟩ := hq
            obtain ⟨y, hy⟩ := hback q j x j1 hx
            have hlj : Lst listed j := Classical.byContradiction fun hh => by rw [h8 j q hh j1] at hy; cases hy
            have same : ∀ (d : Nat), LateAt P ops as trs listed d ρ q ↔ d < cnt P ops.toList j := fun d => by
              constructor
              · rintro ⟨j', t'', y', _, _, _, q1, q2, _⟩
                rw [← hpre.uniq j' j q q1 j1]; exact q2
              · exact fun hd => ⟨j, t', y, hlj, j2, j3, j1, hd, hy⟩
            by_cases c1 : cnt P ops.toList i + 1 < cnt P ops.toList j
            · rw [if_pos ((same _).2 c1), if_pos ((same _).2 (by omega))]
            · rw [if_neg (fun hh => c1 ((same _).1 hh))]
              by_cases c2 : cnt P ops.toList i < cnt P ops.toList j
              · rw [if_pos ((same _).2 c2), ((h9.late j t' q y hlj j2 j3 j1 hy).2 c2).1]
                obtain ⟨sj, s1, s2⟩ := late_chain hpre htr j2 j3 j1
                rw [show cnt P ops.toList j = cnt P ops.toList i + 1 by omega, n5] at s1
                cases s1; exact s2
              · rw [if_neg (fun hh => c2 ((same _).1 hh)), gm q]
                intro j' t'' q1 q2 q3 q4 q5
                have := hpre.uniq j j' q j1 q5
                subst this
                have := cnt_mono (P := P) (l := ops.toList) q1
                omega
          · have no : ∀ (d : Nat), ¬ LateAt P ops as trs listed d ρ q := fun d => by
              rintro ⟨j, t', y, _, q1, q2, q3, _⟩
              exact hq ⟨j, t', q3, q1, q2⟩
            rw [if_neg (no _), if_neg (no _), gm q]
            exact fun j t' _ _ q1 q2 q3 => hq ⟨j, t', q3, q1, q2⟩
        refine fin v' w' ρ' (cnt P ops.toList i + 1) (preS trs stf k2) M2 hv hA.ext (fun j oj g1 g2 => ?_) ?_ n5 hA2 (by rw [gn]; exact Nat.le_trans h7 hA.next) (fun j b' hj hb' => hdom b' j hb' (hunl j b' hj hb').2) ⟨m1, fun j t' b' x hj ht' hb' ha hx => ?_, fun q x hx hno => ?_⟩
        · by_cases hji : j = i
          · subst hji; simp
          · have hne : cnt P ops.toList j ≠ cnt P ops.toList i := by
              rcases Nat.lt_or_ge j i with hlt | hge
              · have := cnt_succ (P := P) g1
                rw [g2] at this
                simp only [if_true] at this
                have h' := cnt_mono (P := P) (l := ops.toList) (show j + 1 ≤ i by omega)
                omega
              · have h' := cnt_mono (P := P) (l := ops.toList) (show i + 1 ≤ j by omega)
                omega
            rw [h2 j oj g1 g2]
            constructor
            · rintro (e | e)
              · exact absurd e hji
              · omega
            · intro e; right; omega
        · rw [chl_eq hpre htr, ← hcs]; exact cnt_mono (by omega)
        · have hji : j ≠ i := fun e => by subst e; rw [t1] at ht'; cases ht'; rw [t3, hB] at hb'; cases hb'
          obtain ⟨y, hy⟩ := hback b' j x ha hx
          have hlj := hlate j hj hji
          obtain ⟨q1, q2⟩ := h9.late j t' b' y hlj ht' hb' ha hy
          refine ⟨q1, fun hcj => ⟨?_, ?_⟩⟩
          · rw [m3, if_pos ⟨j, t', y, hlj, ht', hb', ha, hcj, hy⟩]
            exact (q2 (by omega)).1
          · have hij := hpos ht' hb' (by omega)
            refine hfar b' j t' y hlj ht' hb' ha hy ?_
            rcases Nat.lt_or_ge k2 j with hh | hh
            · exact hh
            · have := cnt_mono (P := P) (l := ops.toList) hh
              rw [n4, hcs] at this; omega
        · rw [m3, if_neg]
          rintro ⟨j, t', y, _, q1, q2, q3, q4, _⟩
          exact hno j t' q3 q1 q2 q4
      | false =>
        -- a reader
        have huj : ∀ u ∈ trs, u.w = true → ∃ j oj, ops.toList[j]? = some oj ∧ isW P oj = true ∧ u.i = j ∧ u.c = cnt P ops.toList j := by
          intro u hu huw
          obtain ⟨j, hj, rfl⟩ := List.getElem_of_mem hu
          have hoj := tr_at hpre htr (List.getElem?_eq_getElem hj)
          obtain ⟨tj, _, g1, _, g2, _, _, g3, g4, _⟩ := op_at hpre htr hoj
          rw [List.getElem?_eq_getElem hj] at g1; cases g1
          exact ⟨j, _, hoj, by rw [← g3]; exact huw, g2, g4⟩
        have hstep : ∃ s1, stepD P call ops ab o fr s = .ok t.v s1 := by
          rw [stepD_congr hlook]
          rcases hdy i t t1 (by rw [t3]; exact hw) (by rw [t3]; exact hB) c s h4 with ⟨u, g1, g2, g3, g4⟩ | ⟨u, g1, g2, g3, g4⟩ | ⟨s2, g⟩
          · obtain ⟨j, oj, k1, k2, k3, k4⟩ := huj u g1 g2
            rw [t2, k3] at g4
            exact absurd (hanc' i j g4 ((h2 j oj k1 k2).2 (by omega))) hnl
          · obtain ⟨j, oj, k1, k2, k3, k4⟩ := huj u g1 g2
            rw [t2, k3] at g4
            have := (h2 j oj k1 k2).1 (hanc j g4)
            omega
          · rw [t3, t2'] at g; exact ⟨s2, g⟩
        obtain ⟨sx, hsx⟩ := hstep
        rw [stepD_still hw hB hsx] at hsx
        obtain ⟨hab0, hsc⟩ := stepC_of_stepD hnew hlf hsx
        refine stepC_sound hc hsc hwr h5 fun v' w' ρ' hv hA => ?_
        have hnone : ∀ q, LateAt P ops as trs listed c ρ q → s.mem.get q = none := by
          rintro q ⟨j, t', x, j1, j2, j3, j4, j5, j6⟩
          exact ((h9.late j t' q x j1 j2 j3 j4 j6).2 j5).2
        obtain ⟨M1, b1, b2, b3⟩ := h9.step h8 h6 hA hnone
        have hdom : ∀ q j, as[j]? = some (some q) → ρ q = none → ρ' q = none := fun q j hj hq => hA.dom q (by have := hpre.range j q hj; omega) hq
        refine fin v' w' ρ' c s M1 hv hA.ext (hsame hw) h3 h4 b1 h7 (fun j b' hj hb' => hdom b' j hb' (hunl j b' hj hb').2) ⟨b2, fun j t' b' x hj ht' hb' ha hx => ?_, fun q x hx hno => ?_⟩
        · have hji : j ≠ i := fun e => by subst e; rw [t1] at ht'; cases ht'; rw [t3, hB] at hb'; cases hb'
          cases hq : ρ b' with
          | none => rw [hdom b' j ha hq] at hx; cases hx
          | some y =>
            have hlj := hlate j hj hji
            obtain ⟨q1, q2⟩ := h9.late j t' b' y hlj ht' hb' ha hq
            refine ⟨q1, fun hcj => ?_⟩
            rw [b3, if_pos ⟨j, t', y, hlj, ht', hb', ha, hcj, hq⟩]
            exact q2 hcj
        · rw [b3, if_neg]
          rintro ⟨j, t', y, _, q1, q2, q3, q4, _⟩
          exact hno j t' q3 q1 q2 q4

theorem draw_any (hc : CallSound P call) (hst : StatP P ops) (hpre : PreOK P ops.toList stA as st0) (htr : TrOK (ops.toList.zip as) P call n ops 0 0 fr0 st0 trs ch frf stf) (hdy : DynP P call ops (ch ++ [stf]) trs) (hlt : LateP P ops as (ch ++ [stf]) trs) : ∀ (fuel : Nat) (listed : Array Bool) (a : Act) (w : World),
    Inv P ops as trs ch stf n ρ0 stA st0 fr0 w0 listed a w → unl ops.size listed ≤ fuel → wpAny P .any ops (Post ρ0 stA w0 n (.norm frf stf)) fuel listed a w := by
  intro fuel
  induction fuel with
  | zero =>
    intro listed a w h hu
    have hr : Region.ready .any ops listed = [] := by
      rw [List.eq_nil_iff_forall_not_mem]
      intro i hi
      obtain ⟨h1, h2, h3⟩ := (ready_iff h.size).1 hi
      have : listed.getD i true = false := by
        have e : listed.getD i false = listed.getD i true := by simp [h.size, h1]
        unfold Lst at h2; rw [e] at h2; simpa using h2
      have := unl_set h1 h.size this
      omega
    exact ⟨hr, h.done hpre htr (all_listed hst h.size hr)⟩
  | succ fuel ih =>
    intro listed a w h hu
    refine ⟨fun hr => h.done hpre htr (all_listed hst h.size hr), fun i hi => h.step hc hst hpre htr hdy hlt hi fun a' w' h' => ih _ a' w' h' ?_⟩
    obtain ⟨h1, h2, h3⟩ := (ready_iff h.size).1 hi
    have : listed.getD i true = false := by
      have e : listed.getD i false = listed.getD i true := by simp [h.size, h1]
      unfold Lst at h2; rw [e] at h2; simpa using h2
    have := unl_set h1 h.size this
    omega

open Classical in
/-- A region that draws, by what is true of it. -/
noncomputable def runDraw2 (P : Program) : DrawF := fun call n ops fr st => preA P ops.toList st fun as st1 => match trace P call n ops (ops.toList.zip as) 0 0 fr st1 with
  | some r => if StatP P ops ∧ DynP P call ops (r.2.1 ++ [r.2.2.2]) r.1 ∧ LateP P ops as (r.2.1 ++ [r.2.2.2]) r.1 then .norm r.2.2.1 r.2.2.2 else .bad
  | none => .bad
theorem runDraw2_sound (hm : P.follows .mixedOrders = true) : DrawSound P (runDraw2 P) := by
  intro call n hc id ops fr st ρ a w hb hw hf hn hd
  unfold runDraw2 at hb ⊢
  obtain ⟨as, st1, hpre, hk⟩ := preA_ok (P := P) ops.toList st
  rw [hk] at hb
  rw [hk]
  have hmap : (ops.toList.zip as).map (·.1) = ops.toList := List.map_fst_zip (by rw [hpre.len]; exact Nat.le_refl _)
  cases ht : trace P call n ops (ops.toList.zip as) 0 0 fr st1 with
  | none => rw [ht] at hb; exact absurd rfl hb
  | some r =>
    obtain ⟨trs, ch, frf, stf⟩ := r
    rw [ht] at hb
    dsimp only at hb ⊢
    split at hb
    · rename_i hdy
      rw [if_pos hdy]
      obtain ⟨hst, hdy, hlt⟩ := hdy
      have htr := trace_ok ht (by rw [hmap]; exact hst.s3)
      have hpa := hpre.after ρ w hw
      refine wp_region_any hm ?_
      refine draw_any (w0 := w) hc hst hpre htr hdy hlt _ _ _ _ ?_ ?_
      · have hno : ∀ i, ¬ Lst (Array.replicate ops.size false) i := fun i hi => by
          unfold Lst at hi
          simp only [Array.getD_eq_getD_getElem?, Array.getElem?_replicate] at hi
          split at hi <;> cases hi
        have hpn : ∀ (j : Nat) (b : Bp), as[j]? = some (some b) → ρ b = none := fun j b hb => by
          have := hpre.range j b hb
          cases hh : ρ b with
          | none => rfl
          | some x => have := hw.fresh b x hh; omega
        obtain ⟨k2, n1, n2, n3, n4, n5, n6⟩ := next_at hpre htr ops.toList.length 0 (by omega)
        obtain ⟨gn, gm⟩ := gap hpre htr n1 n2 n3
        have hf0 : preS trs stf 0 = st1 := htr.fst
        rw [hf0] at gn gm
        have hc0 : cnt P ops.toList 0 = 0 := rfl
        rw [hc0] at n5
        have hkn : ∀ q x, ρ q = some x → (preS trs stf k2).mem.get q = st1.mem.get q := fun q x hx => gm q fun j t _ _ _ _ q5 => by rw [hpn j q q5] at hx; cases hx
        exact ⟨by simp, fun i hi => absurd hi (hno i), fun i hi => absurd hi (hno i), ⟨fr, 0, ρ, preS trs stf k2, preS trs stf k2, ⟨fun j o d t hj => absurd hj (hno j), fun p _ => rfl⟩, fun j o _ _ => ⟨fun hh => absurd hh (hno j), fun hh => absurd hh (Nat.not_lt_zero _)⟩, Nat.zero_le _, n5, hf, (hpa.trans (After.draw hpa.wr _)).silent hkn gn, by rw [gn]; exact Nat.le_refl _, fun j b _ hb => hpn j b hb,
          ⟨rfl, fun j t b x hj => absurd hj (hno j), fun q x _ _ => rfl⟩⟩, hn, hd⟩
      · unfold unl
        exact Nat.le_trans List.countP_le_length (by simp)
    · exact absurd rfl hb
end
end Sim

/- Sim, part 30: frames of 256 slots, and the closures that read and write one slot. (Printed by genx1.py.) -/
namespace Sim
open Go

structure S16 (α : Type) where
  (a0 a1 a2 a3 a4 a5 a6 a7 a8 a9 a10 a11 a12 a13 a14 a15 : α)
section
variable {α β : Type}
def S16.fields (s : S16 α) : List α := [s.a0, s.a1, s.a2, s.a3, s.a4, s.a5, s.a6, s.a7, s.a8, s.a9, s.a10, s.a11, s.a12, s.a13, s.a14, s.a15]
def S16.all (x : α) : S16 α := ⟨x, x, x, x, x, x, x, x, x, x, x, x, x, x, x, x⟩
/-- The closures that read a field. -/
noncomputable def getL (α : Type) : List (S16 α → α) := [(fun s => S16.rec (motive := fun _ => α) (fun a _ _ _ _ _ _ _ _ _ _ _ _ _ _ _ => a) s),
  (fun s => S16.rec (motive := fun _ => α) (fun _ a _ _ _ _ _ _ _ _ _ _ _ _ _ _ => a) s),
  (fun s => S16.rec (motive := fun _ => α) (fun _ _ a _ _ _ _ _ _ _ _ _ _ _ _ _ => a) s),
  (fun s => S16.rec (motive := fun _ => α) (fun _ _ _ a _ _ _ _ _ _ _ _ _ _ _ _ => a) s),
  (fun s => S16.rec (motive := fun _ => α) (fun _ _ _ _ a _ _ _ _ _ _ _ _ _ _ _ => a) s),
  (fun s => S16.rec (motive := fun _ => α) (fun _ _ _ _ _ a _ _ _ _ _ _ _ _ _ _ => a) s),
  (fun s => S16.rec (motive := fun _ => α) (fun _ _ _ _ _ _ a _ _ _ _ _ _ _ _ _ => a) s),
  (fun s => S16.rec (motive := fun _ => α) (fun _ _ _ _ _ _ _ a _ _ _ _ _ _ _ _ => a) s),
  (fun s => S16.rec (motive := fun _ => α) (fun _ _ _ _ _ _ _ _ a _ _ _ _ _ _ _ => a) s),
  (fun s => S16.rec (motive := fun _ => α) (fun _ _ _ _ _ _ _ _ _ a _ _ _ _ _ _ => a) s),
  (fun s => S16.rec (motive := fun _ => α) (fun _ _ _ _ _ _ _ _ _ _ a _ _ _ _ _ => a) s),
  (fun s => S16.rec (motive := fun _ => α) (fun _ _ _ _ _ _ _ _ _ _ _ a _ _ _ _ => a) s),
  (fun s => S16.rec (motive := fun _ => α) (fun _ _ _ _ _ _ _ _ _ _ _ _ a _ _ _ => a) s),
  (fun s => S16.rec (motive := fun _ => α) (fun _ _ _ _ _ _ _ _ _ _ _ _ _ a _ _ => a) s),
  (fun s => S16.rec (motive := fun _ => α) (fun _ _ _ _ _ _ _ _ _ _ _ _ _ _ a _ => a) s),
  (fun s => S16.rec (motive := fun _ => α) (fun _ _ _ _ _ _ _ _ _ _ _ _ _ _ _ a => a) s)]
/-- The closures that turn a field. -/
noncomputable def modL (α R : Type) : List (S16 α → (α → (α → R) → R) → (S16 α → R) → R) := [(fun s h k => S16.rec (motive := fun _ => (α → (α → R) → R) → (S16 α → R) → R) (fun a0 a1 a2 a3 a4 a5 a6 a7 a8 a9 a10 a11 a12 a13 a14 a15 h k => h a0 fun x => k ⟨x, a1, a2, a3, a4, a5, a6, a7, a8, a9, a10, a11, a12, a13, a14, a15⟩) s h k),
  (fun s h k => S16.rec (motive := fun _ => (α → (α → R) → R) → (S16 α → R) → R) (fun a0 a1 a2 a3 a4 a5 a6 a7 a8 a9 a10 a11 a12 a13 a14 a15 h k => h a1 fun x => k ⟨a0, x, a2, a3, a4, a5, a6, a7, a8, a9, a10, a11, a12, a13, a14, a15⟩) s h k),
  (fun s h k => S16.rec (motive := fun _ => (α → (α → R) → R) → (S16 α → R) → R) (fun a0 a1 a2 a3 a4 a5 a6 a7 a8 a9 a10 a11 a12 a13 a14 a15 h k => h a2 fun x => k ⟨a0, a1, x, a3, a4, a5, a6, a7, a8, a9, a10, a11, a12, a13, a14, a15⟩) s h k),
  (fun s h k => S16.rec (motive := fun _ => (α → (α → R) → R) → (S16 α → R) → R) (fun a0 a1 a2 a3 a4 a5 a6 a7 a8 a9 a10 a11 a12 a13 a14 a15 h k => h a3 fun x => k ⟨a0, a1, a2, x, a4, a5, a6, a7, a8, a9, a10, a11, a12, a13, a14, a15⟩) s h k),
  (fun s h k => S16.rec (motive := fun _ => (α → (α → R) → R) → (S16 α → R) → R) (fun a0 a1 a2 a3 a4 a5 a6 a7 a8 a9 a10 a11 a12 a13 a14 a15 h k => h a4 fun x => k ⟨a0, a1, a2, a3, x, a5, a6, a7, a8, a9, a10, a11, a12, a13, a14, a15⟩) s h k),
  (fun s h k => S16.rec (motive := fun _ => (α → (α → R) → R) → (S16 α → R) → R) (fun a0 a1 a2 a3 a4 a5 a6 a7 a8 a9 a10 a11 a12 a13 a14 a15 h k => h a5 fun x => k ⟨a0, a1, a2, a3, a4, x, a6, a7, a8, a9, a10, a11, a12, a13, a14, a15⟩) s h k),
  (fun s h k => S16.rec (motive := fun _ => (α → (α → R) → R) → (S16 α → R) → R) (fun a0 a1 a2 a3 a4 a5 a6 a7 a8 a9 a10 a11 a12 a13 a14 a15 h k => h a6 fun x => k ⟨a0, a1, a2, a3, a4, a5, x, a7, a8, a9, a10, a11, a12, a13, a14, a15⟩) s h k),
  (fun s h k => S16.rec (motive := fun _ => (α → (α → R) → R) → (S16 α → R) → R) (fun a0 a1 a2 a3 a4 a5 a6 a7 a8 a9 a10 a11 a12 a13 a14 a15 h k => h a7 fun x => k ⟨a0, a1, a2, a3, a4, a5, a6, x, a8, a9, a10, a11, a12, a13, a14, a15⟩) s h k),
  (fun s h k => S16.rec (motive := fun _ => (α → (α → R) → R) → (S16 α → R) → R) (fun a0 a1 a2 a3 a4 a5 a6 a7 a8 a9 a10 a11 a12 a13 a14 a15 h k => h a8 fun x => k ⟨a0, a1, a2, a3, a4, a5, a6, a7, x, a9, a10, a11, a12, a13, a14, a15⟩) s h k),
  (fun s h k => S16.rec (motive := fun _ => (α → (α → R) → R) → (S16 α → R) → R) (fun a0 a1 a2 a3 a4 a5 a6 a7 a8 a9 a10 a11 a12 a13 a14 a15 h k => h a9 fun x => k ⟨a0, a1, a2, a3, a4, a5, a6, a7, a8, x, a10, a11, a12, a13, a14, a15⟩) s h k),
  (fun s h k => S16.rec (motive := fun _ => (α → (α → R) → R) → (S16 α → R) → R) (fun a0 a1 a2 a3 a4 a5 a6 a7 a8 a9 a10 a11 a12 a13 a14 a15 h k => h a10 fun x => k ⟨a0, a1, a2, a3, a4, a5, a6, a7, a8, a9, x, a11, a12, a13, a14, a15⟩) s h k),
  (fun s h k => S16.rec (motive := fun _ => (α → (α → R) → R) → (S16 α → R) → R) (fun a0 a1 a2 a3 a4 a5 a6 a7 a8 a9 a10 a11 a12 a13 a14 a15 h k => h a11 fun x => k ⟨a0, a1, a2, a3, a4, a5, a6, a7, a8, a9, a10, x, a12, a13, a14, a15⟩) s h k),
  (fun s h k => S16.rec (motive := fun _ => (α → (α → R) → R) → (S16 α → R) → R) (fun a0 a1 a2 a3 a4 a5 a6 a7 a8 a9 a10 a11 a12 a13 a14 a15 h k => h a12 fun x => k ⟨a0, a1, a2, a3, a4, a5, a6, a7, a8, a9, a10, a11, x, a13, a14, a15⟩) s h k),
  (fun s h k => S16.rec (motive := fun _ => (α → (α → R) → R) → (S16 α → R) → R) (fun a0 a1 a2 a3 a4 a5 a6 a7 a8 a9 a10 a11 a12 a13 a14 a15 h k => h a13 fun x => k ⟨a0, a1, a2, a3, a4, a5, a6, a7, a8, a9, a10, a11, a12, x, a14, a15⟩) s h k),
  (fun s h k => S16.rec (motive := fun _ => (α → (α → R) → R) → (S16 α → R) → R) (fun a0 a1 a2 a3 a4 a5 a6 a7 a8 a9 a10 a11 a12 a13 a14 a15 h k => h a14 fun x => k ⟨a0, a1, a2, a3, a4, a5, a6, a7, a8, a9, a10, a11, a12, a13, x, a15⟩) s h k),
  (fun s h k => S16.rec (motive := fun _ => (α → (α → R) → R) → (S16 α → R) → R) (fun a0 a1 a2 a3 a4 a5 a6 a7 a8 a9 a10 a11 a12 a13 a14 a15 h k => h a15 fun x => k ⟨a0, a1, a2, a3, a4, a5, a6, a7, a8, a9, a10, a11, a12, a13, a14, x⟩) s h k)]
def S16.set (s : S16 α) (i : Nat) (x : α) : S16 α := match i with | 0 => ⟨x, s.a1, s.a2, s.a3, s.a4, s.a5, s.a6, s.a7, s.a8, s.a9, s.a10, s.a11, s.a12, s.a13, s.a14, s.a15⟩ | 1 => ⟨s.a0, x, s.a2, s.a3, s.a4, s.a5, s.a6, s.a7, s.a8, s.a9, s.a10, s.a11, s.a12, s.a13, s.a14, s.a15⟩ | 2 => ⟨s.a0, s.a1, x, s.a3, s.a4, s.a5, s.a6, s.a7, s.a8, s.a9, s.a10, s.a11, s.a12, s.a13, s.a14, s.a15⟩ | 3 => ⟨s.a0, s.a1, s.a2, x, s.a4, s.a5, s.a6, s.a7, s.a8, s.a9, s.a10, s.a11, s.a12, s.a13, s.a14, s.a15⟩ | 4 => ⟨s.a0, s.a1, s.a2, s.a3, x, s.a5, s.a6, s.a7, s.a8, s.a9, s.a10, s.a11, s.a12, s.a13, s.a14, s.a15⟩ | 5 => ⟨s.a0, s.a1, s.a2, s.a3, s.a4, x, s.a6, s.a7, s.a8, s.a9, s.a10, s.a11, s.a12, s.a13, s.a14, s.a15⟩ | 6 => ⟨s.a0, s.a1, s.a2, s.a3, s.a4, s.a5, x, s.a7, s.a8, s.a9, s.a10, s.a11, s.a12, s.a13, s.a14, s.a15⟩ | 7 => ⟨s.a0, s.a1, s.a2, s.a3, s.a4, s.a5, s.a6, x, s.a8, s.a9, s.a10, s.a11, s.a12, s.a13, s.a14, s.a15⟩ | 8 => ⟨s.a0, s.a1, s.a2, s.a3, s.a4, s.a5, s.a6, s.a7, x, s.a9, s.a10, s.a11, s.a12, s.a13, s.a14, s.a15⟩ | 9 => ⟨s.a0, s.a1, s.a2, s.a3, s.a4, s.a5, s.a6, s.a7, s.a8, x, s.a10, s.a11, s.a12, s.a13, s.a14, s.a15⟩ | 10 => ⟨s.a0, s.a1, s.a2, s.a3, s.a4, s.a5, s.a6, s.a7, s.a8, s.a9, x, s.a11, s.a12, s.a13, s.a14, s.a15⟩ | 11 => ⟨s.a0, s.a1, s.a2, s.a3, s.a4, s.a5, s.a6, s.a7, s.a8, s.a9, s.a10, x, s.a12, s.a13, s.a14, s.a15⟩ | 12 => ⟨s.a0, s.a1, s.a2, s.a3, s.a4, s.a5, s.a6, s.a7, s.a8, s.a9, s.a10, s.a11, x, s.a13, s.a14, s.a15⟩ | 13 => ⟨s.a0, s.a1, s.a2, s.a3, s.a4, s.a5, s.a6, s.a7, s.a8, s.a9, s.a10, s.a11, s.a12, x, s.a14, s.a15⟩ | 14 => ⟨s.a0, s.a1, s.a2, s.a3, s.a4, s.a5, s.a6, s.a7, s.a8, s.a9, s.a10, s.a11, s.a12, s.a13, x, s.a15⟩ | 15 => ⟨s.a0, s.a1, s.a2, s.a3, s.a4, s.a5, s.a6, s.a7, s.a8, s.a9, s.a10, s.a11, s.a12, s.a13, s.a14, x⟩ | _ => s
theorem S16.fields_len (s : S16 α) : s.fields.length = 16 := rfl
theorem S16.fields_set (s : S16 α) (i : Nat) (x : α) : (s.set i x).fields = s.fields.set i x := by
  match i with
  | 0 => rfl
  | 1 => rfl
  | 2 => rfl
  | 3 => rfl
  | 4 => rfl
  | 5 => rfl
  | 6 => rfl
  | 7 => rfl
  | 8 => rfl
  | 9 => rfl
  | 10 => rfl
  | 11 => rfl
  | 12 => rfl
  | 13 => rfl
  | 14 => rfl
  | 15 => rfl
  | n + 16 => rw [List.set_eq_of_length_le (by rw [S16.fields_len]; omega)]; rfl
theorem getL_spec (i : Nat) (hi : i < 16) (d : S16 α → α) (s : S16 α) : some ((getL α).getD i d s) = s.fields[i]? := by
  match i, hi with
  | 0, _ => rfl
  | 1, _ => rfl
  | 2, _ => rfl
  | 3, _ => rfl
  | 4, _ => rfl
  | 5, _ => rfl
  | 6, _ => rfl
  | 7, _ => rfl
  | 8, _ => rfl
  | 9, _ => rfl
  | 10, _ => rfl
  | 11, _ => rfl
  | 12, _ => rfl
  | 13, _ => rfl
  | 14, _ => rfl
  | 15, _ => rfl
  | n + 16, hi => exact absurd hi (by omega)
theorem modL_spec {R : Type} (i : Nat) (hi : i < 16) (d : S16 α → (α → (α → R) → R) → (S16 α → R) → R) (s : S16 α) (x : α) (h : α → (α → R) → R) (k : S16 α → R)
    (hh : ∀ k, h ((getL α).getD i (fun s => s.a0) s) k = k x) : (modL α R).getD i d s h k = k (s.set i x) := by
  match i, hi with
  | 0, _ => exact hh _
  | 1, _ => exact hh _
  | 2, _ => exact hh _
  | 3, _ => exact hh _
  | 4, _ => exact hh _
  | 5, _ => exact hh _
  | 6, _ => exact hh _
  | 7, _ => exact hh _
  | 8, _ => exact hh _
  | 9, _ => exact hh _
  | 10, _ => exact hh _
  | 11, _ => exact hh _
  | 12, _ => exact hh _
  | 13, _ => exact hh _
  | 14, _ => exact hh _
  | 15, _ => exact hh _
  | n + 16, hi => exact absurd hi (by omega)
end

abbrev Fx := S16 (S16 CV)
noncomputable def Fx.nil : Fx := S16.all (S16.all .undef)
def xget (i : Nat) (f : Fx) : CV := match f.fields[i / 16]? with | some g => (g.fields[i % 16]?).getD .undef | none => .undef
def xput (i : Nat) (f : Fx) (v : CV) : Fx := match f.fields[i / 16]? with | some g => f.set (i / 16) (g.set (i % 16) v) | none => f
theorem xget_nil (i : Nat) : xget i Fx.nil = .undef := by
  have h : ∀ (α : Type) (x : α) (i : Nat), (S16.all x).fields[i]? = if i < 16 then some x else none := by
    intro α x i
    match i with
    | 0 => rfl
    | 1 => rfl
    | 2 => rfl
    | 3 => rfl
    | 4 => rfl
    | 5 => rfl
    | 6 => rfl
    | 7 => rfl
    | 8 => rfl
    | 9 => rfl
    | 10 => rfl
    | 11 => rfl
    | 12 => rfl
    | 13 => rfl
    | 14 => rfl
    | 15 => rfl
    | n + 16 => rw [if_neg (by omega)]; exact List.getElem?_eq_none (by rw [S16.fields_len]; omega)
  unfold xget Fx.nil
  rw [h]
  split
  · rename_i g hg
    split at hg
    · cases hg; rw [h]; split <;> rfl
    · cases hg
  · rfl
theorem xget_put_same {i : Nat} (hi : i < 256) (f : Fx) (v : CV) : xget i (xput i f v) = v := by
  have h1 : i / 16 < 16 := by omega
  have h2 : i % 16 < 16 := by omega
  unfold xput
  have e1 : f.fields[i / 16]? = some (f.fields[i / 16]'(by rw [S16.fields_len]; exact h1)) := by simp
  rw [e1]
  unfold xget
  dsimp only
  rw [S16.fields_set, List.getElem?_set_self (by rw [S16.fields_len]; exact h1)]
  dsimp only
  rw [S16.fields_set, List.getElem?_set_self (by rw [S16.fields_len]; exact h2)]
  rfl
theorem xget_put_ne {i j : Nat} (f : Fx) (v : CV) (h : j ≠ i) : xget j (xput i f v) = xget j f := by
  unfold xput
  split
  · rename_i g hg
    unfold xget
    rw [S16.fields_set]
    by_cases e : j / 16 = i / 16
    · rw [e, hg, List.getElem?_set_self (List.getElem?_eq_some_iff.1 hg).1]
      dsimp only
      rw [S16.fields_set, List.getElem?_set_ne (fun e2 => h (by omega))]
    · rw [List.getElem?_set_ne (fun e2 => e e2.symm)]
  · rfl

/-- The n-th of a list, handed on as it stands. -/
noncomputable def nthK {α β : Type} (l : List α) : Nat → (α → β) → β → β :=
  List.rec (motive := fun _ => Nat → (α → β) → β → β) (fun _ _ d => d) (fun x _ ih n k d => Nat.rec (motive := fun _ => β) (k x) (fun m _ => ih m k d) n) l
theorem nthK_eq {α β : Type} : ∀ (l : List α) (n : Nat) (k : α → β) (d : β), nthK l n k d = match l[n]? with | some x => k x | none => d := by
  intro l
  induction l with
  | nil => intro n k d; simp; rfl
  | cons x l ih => intro n k d; cases n with
    | zero => rfl
    | succ n => simp only [List.getElem?_cons_succ]; rw [← ih]; rfl
noncomputable def xgetK {β : Type} (i : Nat) (k : (Fx → CV) → β) (bad : β) : β :=
  nthK (getL (S16 CV)) (Nat.div i 16) (fun ga => nthK (getL CV) (Nat.mod i 16) (fun gb => k fun f => gb (ga f)) bad) bad
noncomputable def xputK {R β : Type} (i : Nat) (k : (Fx → CV → (Fx → R) → R) → β) (bad : β) : β :=
  nthK (modL (S16 CV) R) (Nat.div i 16) (fun ma => nthK (modL CV R) (Nat.mod i 16) (fun mb => k fun f v kk => ma f (fun s kk => mb s (fun _ kk => kk v) kk) kk) bad) bad
theorem getL_len (α : Type) : (getL α).length = 16 := rfl
theorem modL_len (α R : Type) : (modL α R).length = 16 := rfl
/-- A closure that reads slot i. -/
def Reads (i : Nat) (g : Fx → CV) : Prop := ∀ f, g f = xget i f
def Puts {R : Type} (i : Nat) (p : Fx → CV → (Fx → R) → R) : Prop := ∀ f v k, p f v k = k (xput i f v)
theorem xgetK_eq {β : Type} (i : Nat) (k : (Fx → CV) → β) (bad : β) : (i < 256 ∧ ∃ g, Reads i g ∧ xgetK i k bad = k g) ∨ (¬ i < 256 ∧ xgetK i k bad = bad) := by
  unfold xgetK
  rw [nthK_eq]
  have e1 : Nat.div i 16 = i / 16 := rfl
  have e2 : Nat.mod i 16 = i % 16 := rfl
  rw [e1]
  have h2 : i % 16 < 16 := by omega
  by_cases hi : i < 256
  · have h1 : i / 16 < 16 := by omega
    left
    refine ⟨hi, ?_⟩
    have g1 : (getL (S16 CV))[i / 16]? = some ((getL (S16 CV)).getD (i / 16) fun s => s.a0) := by rw [List.getD_eq_getElem?_getD, List.getElem?_eq_getElem (by rw [getL_len]; exact h1)]; rfl
    have g2 : (getL CV)[i % 16]? = some ((getL CV).getD (i % 16) fun s => s.a0) := by rw [List.getD_eq_getElem?_getD, List.getElem?_eq_getElem (by rw [getL_len]; exact h2)]; rfl
    rw [g1]
    dsimp only
    rw [nthK_eq, e2, g2]
    refine ⟨_, ?_, rfl⟩
    intro f
    unfold xget
    rw [← getL_spec (i / 16) h1 (fun s => s.a0) f]
    dsimp only
    rw [← getL_spec (i % 16) h2 (fun s => s.a0) _]
    rfl
  · right
    refine ⟨hi, ?_⟩
    rw [List.getElem?_eq_none (by rw [getL_len]; omega)]
theorem xputK_eq {R β : Type} (i : Nat) (k : (Fx → CV → (Fx → R) → R) → β) (bad : β) : (i < 256 ∧ ∃ p, Puts i p ∧ xputK i k bad = k p) ∨ (¬ i < 256 ∧ xputK i k bad = bad) := by
  unfold xputK
  rw [nthK_eq]
  have e1 : Nat.div i 16 = i / 16 := rfl
  have e2 : Nat.mod i 16 = i % 16 := rfl
  rw [e1]
  have h2 : i % 16 < 16 := by omega
  by_cases hi : i < 256
  · have h1 : i / 16 < 16 := by omega
    left
    refine ⟨hi, ?_⟩
    have g1 : (modL (S16 CV) R)[i / 16]? = some ((modL (S16 CV) R).getD (i / 16) fun s _ k => k s) := by rw [List.getD_eq_getElem?_getD, List.getElem?_eq_getElem (by rw [modL_len]; exact h1)]; rfl
    have g2 : (modL CV R)[i % 16]? = some ((modL CV R).getD (i % 16) fun s _ k => k s) := by rw [List.getD_eq_getElem?_getD, List.getElem?_eq_getElem (by rw [modL_len]; exact h2)]; rfl
    rw [g1]
    dsimp only
    rw [nthK_eq, e2, g2]
    refine ⟨_, ?_, rfl⟩
    intro f v kk
    have hg := getL_spec (i / 16) h1 (fun s => s.a0) f
    unfold xput
    rw [← hg]
    dsimp only
    exact modL_spec (i / 16) h1 _ f _ _ kk fun k' => modL_spec (i % 16) h2 _ _ v _ k' fun k'' => rfl
  · right
    refine ⟨hi, ?_⟩
    rw [List.getElem?_eq_none (by rw [modL_len]; omega)]

/-- A frame of closures and a frame of the elder kind. -/
def XR (f : Fx) (fr : Fr) : Prop := ∀ i, i < 256 → xget i f = fget fr (Bp.enc i)
theorem XR.nil : XR Fx.nil .nil := fun i _ => by rw [xget_nil]; unfold fget; rw [show (PT.nil : Fr).get (Bp.enc i) = none from PT.get_nil _]
theorem XR.put {f : Fx} {fr : Fr} (h : XR f fr) {i : Nat} (hi : i < 256) (v : CV) : XR (xput i f v) (fr.put (Bp.enc i) (some v)) := fun j hj => by
  by_cases e : j = i
  · subst e; rw [xget_put_same hi, fget_put_same]
  · rw [xget_put_ne f v e, fget_put_ne _ _ _ _ (fun e2 => e (Bp.enc_inj e2))]; exact h j hj
end Sim

/- Sim, part 31: operations as closures. (Printed by genx2.py.) -/
namespace Sim
open Go

inductive Rx where
  | norm (f : Fx) (st : St)
  | exit (id : Nat) (f : Fx) (st : St)
  | ret (f : Fx) (st : St)
  | bad
abbrev OpX := CallF → Fx → St → (CV → St → Rx) → Rx
abbrev StepX := CallF → Fx → St → (Fx → St → Rx) → Rx

theorem Bp.enc_dec (p : Bp) : Bp.enc p.dec = p := Bp.dec_inj _ _ (Bp.dec_enc _)
def ArgOK (x : CArg) (g : Fx → CV) : Prop := ∀ f fr, XR f fr → g f = ev fr x
noncomputable def argK {β : Type} (x : CArg) (k : (Fx → CV) → β) (bad : β) : β :=
  CArg.rec (motive := fun _ => β) (fun p => forceN p.dec fun i => xgetK i k bad) (fun v => forceV v fun v => k fun _ => v) x
theorem argK_eq {β : Type} (x : CArg) (k : (Fx → CV) → β) (bad : β) : (∃ g, ArgOK x g ∧ argK x k bad = k g) ∨ argK x k bad = bad := by
  cases x with
  | tmp p =>
    show (∃ g, ArgOK (.tmp p) g ∧ forceN p.dec (fun i => xgetK i k bad) = k g) ∨ forceN p.dec (fun i => xgetK i k bad) = bad
    rw [forceN_eq]
    rcases xgetK_eq p.dec k bad with ⟨hi, g, hg, e⟩ | ⟨_, e⟩
    · left
      refine ⟨g, fun f fr h => ?_, e⟩
      rw [hg f, h _ hi, Bp.enc_dec]
      rfl
    · exact .inr e
  | const v =>
    left
    refine ⟨fun _ => v, fun f fr h => rfl, ?_⟩
    show forceV v (fun v => k fun _ => v) = _
    rw [forceV_eq]
noncomputable def argsK {β : Type} (l : List CArg) : ((Fx → List CV) → β) → β → β :=
  List.rec (motive := fun _ => ((Fx → List CV) → β) → β → β) (fun k _ => k fun _ => []) (fun x _ ih k bad => argK x (fun g => ih (fun gl => k fun f => g f :: gl f) bad) bad) l
theorem argsK_eq {β : Type} : ∀ (l : List CArg) (k : (Fx → List CV) → β) (bad : β), (∃ g : Fx → List CV, (∀ f fr, XR f fr → g f = evL fr l) ∧ argsK l k bad = k g) ∨ argsK l k bad = bad := by
  intro l
  induction l with
  | nil => intro k bad; exact .inl ⟨fun _ => [], fun _ _ _ => rfl, rfl⟩
  | cons x l ih =>
    intro k bad
    show (∃ g : Fx → List CV, (∀ f fr, XR f fr → g f = evL fr (x :: l)) ∧ argK x (fun g => argsK l (fun gl => k fun f => g f :: gl f) bad) bad = k g) ∨ argK x (fun g => argsK l (fun gl => k fun f => g f :: gl f) bad) bad = bad
    rcases argK_eq x (fun g => argsK l (fun gl => k fun f => g f :: gl f) bad) bad with ⟨g, hg, e⟩ | e
    · rw [e]
      rcases ih (fun gl => k fun f => g f :: gl f) bad with ⟨gl, hgl, e2⟩ | e2
      · left
        refine ⟨fun f => g f :: gl f, fun f fr h => ?_, e2⟩
        show g f :: gl f = ev fr x :: evL fr l
        rw [hg f fr h, hgl f fr h]
      · exact .inr e2
    · exact .inr e
noncomputable def optK {β : Type} (x : Option CArg) (k : (Fx → Option CV) → β) (bad : β) : β :=
  Option.rec (motive := fun _ => β) (k fun _ => none) (fun x => argK x (fun g => k fun f => some (g f)) bad) x
theorem optK_eq {β : Type} (x : Option CArg) (k : (Fx → Option CV) → β) (bad : β) : (∃ g : Fx → Option CV, (∀ f fr, XR f fr → g f = evO fr x) ∧ optK x k bad = k g) ∨ optK x k bad = bad := by
  cases x with
  | none => exact .inl ⟨fun _ => none, fun _ _ _ => rfl, rfl⟩
  | some x =>
    rcases argK_eq x (fun g => k fun f => some (g f)) bad with ⟨g, hg, e⟩ | e
    · exact .inl ⟨_, fun f fr h => by show some (g f) = some (ev fr x); rw [hg f fr h], e⟩
    · exact .inr e
noncomputable def partsK {β : Type} (l : List PartA) : ((Fx → List Part) → β) → β → β :=
  List.rec (motive := fun _ => ((Fx → List Part) → β) → β → β) (fun k _ => k fun _ => []) (fun p _ ih k bad => argK p.2.2 (fun g => ih (fun gl => k fun f => (p.1, p.2.1, g f) :: gl f) bad) bad) l
theorem partsK_eq {β : Type} : ∀ (l : List PartA) (k : (Fx → List Part) → β) (bad : β), (∃ g : Fx → List Part, (∀ f fr, XR f fr → g f = evP fr l) ∧ partsK l k bad = k g) ∨ partsK l k bad = bad := by
  intro l
  induction l with
  | nil => intro k bad; exact .inl ⟨fun _ => [], fun _ _ _ => rfl, rfl⟩
  | cons p l ih =>
    intro k bad
    show (∃ g : Fx → List Part, (∀ f fr, XR f fr → g f = evP fr (p :: l)) ∧ argK p.2.2 (fun g => partsK l (fun gl => k fun f => (p.1, p.2.1, g f) :: gl f) bad) bad = k g) ∨ argK p.2.2 (fun g => partsK l (fun gl => k fun f => (p.1, p.2.1, g f) :: gl f) bad) bad = bad
    rcases argK_eq p.2.2 (fun g => partsK l (fun gl => k fun f => (p.1, p.2.1, g f) :: gl f) bad) bad with ⟨g, hg, e⟩ | e
    · rw [e]
      rcases ih (fun gl => k fun f => (p.1, p.2.1, g f) :: gl f) bad with ⟨gl, hgl, e2⟩ | e2
      · left
        refine ⟨fun f => (p.1, p.2.1, g f) :: gl f, fun f fr h => ?_, e2⟩
        show (p.1, p.2.1, g f) :: gl f = (p.1, p.2.1, ev fr p.2.2) :: evP fr l
        rw [hg f fr h, hgl f fr h]
      · exact .inr e2
    · exact .inr e

/-- What comes behind an operation: its value is written out; 'Q': the memory is the one that was there. -/
noncomputable def forceVR (v : CV) : (CV → Rx) → Rx := CV.rec (motive_1 := fun _ => (CV → Rx) → Rx) (motive_2 := fun _ => PUnit) (fun k => k .undef) (fun b => fun k => k (.bool b)) (fun q n => fun k => forceZ n fun n => k (.int q n)) (fun a b => fun k => forceN a fun a => forceN b fun b => k (.str a b)) (fun k => k .nilptr) (fun b off => fun k => forceN off fun off => k (.ptr b off)) (fun k => k .nilslice) (fun b off len cap g => fun k => forceN off fun off => forceN len fun len => forceN cap fun cap => forceN g fun g => k (.slice b off len cap g)) (fun k => k .nilmap) (fun b => fun k => k (.map b)) (fun f a c _ _ => fun k => k (.func f a c)) (fun k => k .nilfunc) (fun t v _ => fun k => k (.iface t v)) (fun k => k .niliface) (fun s _ => fun k => s.force fun s => k (.agg s)) (fun s _ => fun k => s.force fun s => k (.tuple s)) (fun n => fun k => forceN n fun n => k (.atleast n)) PUnit.unit (fun _ _ _ _ => PUnit.unit) (fun _ _ _ _ => PUnit.unit) v
theorem forceVR_eq (v : CV) (k : CV → Rx) : forceVR v k = k v := by cases v <;> simp only [forceVR, forceZ_eq, forceN_eq, Segs.force_eq]
noncomputable def thenQ (r : OR) (k : CV → St → Rx) : Rx := OR.rec (motive := fun _ => (CV → St → Rx) → Rx) (fun v st k => forceVR v fun v => k v st) (fun _ => .bad) r k
noncomputable def thenS (r : OR) (k : CV → St → Rx) : Rx := OR.rec (motive := fun _ => (CV → St → Rx) → Rx) (fun v st k => forceVR v fun v => forceS st fun st => k v st) (fun _ => .bad) r k
def upon (r : OR) (k : CV → St → Rx) : Rx := match r with | .ok v st => k v st | .bad => .bad
theorem thenQ_eq (r : OR) (k : CV → St → Rx) : thenQ r k = upon r k := by cases r <;> simp only [thenQ, upon, forceVR_eq]
theorem thenS_eq (r : OR) (k : CV → St → Rx) : thenS r k = upon r k := by cases r <;> simp only [thenS, upon, forceVR_eq, forceS_eq]

def OpOK (op : COp) (s : OpX) : Prop := ∀ call f fr st kk, XR f fr → s call f st kk = upon (runOp call op fr st) kk
noncomputable def x1 {β : Type} (a : CArg) (F : CV → St → OR) (k : OpX → β) (bad : β) : β := argK a (fun g => k fun _ f st kk => thenQ (F (g f) st) kk) bad
noncomputable def x2 {β : Type} (a b : CArg) (F : CV → CV → St → OR) (k : OpX → β) (bad : β) : β := argK a (fun g => argK b (fun h => k fun _ f st kk => thenQ (F (g f) (h f) st) kk) bad) bad
noncomputable def x1r {β : Type} (a : CArg) (F : CV → St → OR) (k : OpX → β) (bad : β) : β := argK a (fun g => k fun _ f st kk => OR.rec (motive := fun _ => Rx) kk .bad (F (g f) st)) bad
noncomputable def x2r {β : Type} (a b : CArg) (F : CV → CV → St → OR) (k : OpX → β) (bad : β) : β := argK a (fun g => argK b (fun h => k fun _ f st kk => OR.rec (motive := fun _ => Rx) kk .bad (F (g f) (h f) st)) bad) bad
noncomputable def x1s {β : Type} (a : CArg) (F : CV → St → OR) (k : OpX → β) (bad : β) : β := argK a (fun g => k fun _ f st kk => thenS (F (g f) st) kk) bad
noncomputable def x2s {β : Type} (a b : CArg) (F : CV → CV → St → OR) (k : OpX → β) (bad : β) : β := argK a (fun g => argK b (fun h => k fun _ f st kk => thenS (F (g f) (h f) st) kk) bad) bad
noncomputable def x3s {β : Type} (a b c : CArg) (F : CV → CV → CV → St → OR) (k : OpX → β) (bad : β) : β := argK a (fun g => argK b (fun h => argK c (fun j => k fun _ f st kk => thenS (F (g f) (h f) (j f) st) kk) bad) bad) bad
section
variable {β : Type} {k : OpX → β} {bad : β}
theorem x1_eq (a : CArg) (F : CV → St → OR) : (∃ s : OpX, (∀ call f fr st kk, XR f fr → s call f st kk = upon (F (ev fr a) st) kk) ∧ x1 a F k bad = k s) ∨ x1 a F k bad = bad := by
  unfold x1
  rcases argK_eq a (fun g => k fun _ f st kk => thenQ (F (g f) st) kk) bad with ⟨g, hg, e⟩ | e
  · exact .inl ⟨_, fun call f fr st kk h => by rw [thenQ_eq, hg f fr h], e⟩
  · exact .inr e
theorem thenR_eq (r : OR) (k : CV → St → Rx) : OR.rec (motive := fun _ => Rx) k .bad r = upon r k := by cases r <;> rfl
theorem x1r_eq (a : CArg) (F : CV → St → OR) : (∃ s : OpX, (∀ call f fr st kk, XR f fr → s call f st kk = upon (F (ev fr a) st) kk) ∧ x1r a F k bad = k s) ∨ x1r a F k bad = bad := by
  unfold x1r
  rcases argK_eq a (fun g => k fun _ f st kk => OR.rec (motive := fun _ => Rx) kk .bad (F (g f) st)) bad with ⟨g, hg, e⟩ | e
  · exact .inl ⟨_, fun call f fr st kk h => by rw [thenR_eq, hg f fr h], e⟩
  · exact .inr e
theorem x2r_eq (a b : CArg) (F : CV → CV → St → OR) : (∃ s : OpX, (∀ call f fr st kk, XR f fr → s call f st kk = upon (F (ev fr a) (ev fr b) st) kk) ∧ x2r a b F k bad = k s) ∨ x2r a b F k bad = bad := by
  unfold x2r
  rcases argK_eq a (fun g => argK b (fun h => k fun _ f st kk => OR.rec (motive := fun _ => Rx) kk .bad (F (g f) (h f) st)) bad) bad with ⟨g, hg, e⟩ | e
  · rw [e]
    rcases argK_eq b (fun h => k fun _ f st kk => OR.rec (motive := fun _ => Rx) kk .bad (F (g f) (h f) st)) bad with ⟨h, hh, e2⟩ | e2
    · exact .inl ⟨_, fun call f fr st kk hr => by rw [thenR_eq, hg f fr hr, hh f fr hr], e2⟩
    · exact .inr e2
  · exact .inr e
theorem x1s_eq (a : CArg) (F : CV → St → OR) : (∃ s : OpX, (∀ call f fr st kk, XR f fr → s call f st kk = upon (F (ev fr a) st) kk) ∧ x1s a F k bad = k s) ∨ x1s a F k bad = bad := by
  unfold x1s
  rcases argK_eq a (fun g => k fun _ f st kk => thenS (F (g f) st) kk) bad with ⟨g, hg, e⟩ | e
  · exact .inl ⟨_, fun call f fr st kk h => by rw [thenS_eq, hg f fr h], e⟩
  · exact .inr e
theorem x2_eq (a b : CArg) (F : CV → CV → St → OR) : (∃ s : OpX, (∀ call f fr st kk, XR f fr → s call f st kk = upon (F (ev fr a) (ev fr b) st) kk) ∧ x2 a b F k bad = k s) ∨ x2 a b F k bad = bad := by
  unfold x2
  rcases argK_eq a (fun g => argK b (fun h => k fun _ f st kk => thenQ (F (g f) (h f) st) kk) bad) bad with ⟨g, hg, e⟩ | e
  · rw [e]
    rcases argK_eq b (fun h => k fun _ f st kk => thenQ (F (g f) (h f) st) kk) bad with ⟨h, hh, e2⟩ | e2
    · exact .inl ⟨_, fun call f fr st kk hr => by rw [thenQ_eq, hg f fr hr, hh f fr hr], e2⟩
    · exact .inr e2
  · exact .inr e
theorem x2s_eq (a b : CArg) (F : CV → CV → St → OR) : (∃ s : OpX, (∀ call f fr st kk, XR f fr → s call f st kk = upon (F (ev fr a) (ev fr b) st) kk) ∧ x2s a b F k bad = k s) ∨ x2s a b F k bad = bad := by
  unfold x2s
  rcases argK_eq a (fun g => argK b (fun h => k fun _ f st kk => thenS (F (g f) (h f) st) kk) bad) bad with ⟨g, hg, e⟩ | e
  · rw [e]
    rcases argK_eq b (fun h => k fun _ f st kk => thenS (F (g f) (h f) st) kk) bad with ⟨h, hh, e2⟩ | e2
    · exact .inl ⟨_, fun call f fr st kk hr => by rw [thenS_eq, hg f fr hr, hh f fr hr], e2⟩
    · exact .inr e2
  · exact .inr e
theorem x3s_eq (a b c : CArg) (F : CV → CV → CV → St → OR) : (∃ s : OpX, (∀ call f fr st kk, XR f fr → s call f st kk = upon (F (ev fr a) (ev fr b) (ev fr c) st) kk) ∧ x3s a b c F k bad = k s) ∨ x3s a b c F k bad = bad := by
  unfold x3s
  rcases argK_eq a (fun g => argK b (fun h => argK c (fun j => k fun _ f st kk => thenS (F (g f) (h f) (j f) st) kk) bad) bad) bad with ⟨g, hg, e⟩ | e
  · rw [e]
    rcases argK_eq b (fun h => argK c (fun j => k fun _ f st kk => thenS (F (g f) (h f) (j f) st) kk) bad) bad with ⟨h, hh, e2⟩ | e2
    · rw [e2]
      rcases argK_eq c (fun j => k fun _ f st kk => thenS (F (g f) (h f) (j f) st) kk) bad with ⟨j, hj, e3⟩ | e3
      · exact .inl ⟨_, fun call f fr st kk hr => by rw [thenS_eq, hg f fr hr, hh f fr hr, hj f fr hr], e3⟩
      · exact .inr e3
    · exact .inr e2
  · exact .inr e
end

noncomputable def opXK {β : Type} (op : COp) : (OpX → β) → β → β := COp.rec (motive := fun _ => (OpX → β) → β → β)
  (fun x k bad => argK x (fun g => k fun _ f st kk => forceV (g f) fun v => kk v st) bad)
  (fun c a b k bad => argK c (fun g => argK a (fun h => argK b (fun j => k fun _ f st kk => thenQ (pPick (g f) (h f) (j f) st) kk) bad) bad) bad)
  (fun t z k _ => k fun _ _ st kk => thenS (pNew t z st) kk)
  (fun t x k bad => x1s x (fun v st => v.segs.force fun s => pNew t s st) k bad)
  (fun z parts k bad => partsK parts (fun g => k fun _ f st kk => thenQ (pBuild z (g f) st) kk) bad)
  (fun e len z parts k bad => partsK parts (fun g => k fun _ f st kk => thenS (pBuildSlice e len (repS len z) (g f) st) kk) bad)
  (fun a k bad => x1r a hLoad1 k bad)
  (fun n a k bad => x1r a (hLoadN n) k bad)
  (fun n a x k bad => x2s a x (hStore n) k bad)
  (fun x k bad => x1r x pNil k bad)
  (fun op d cst x y k bad => x2r x y (fun v u st => hBin v u op d cst st) k bad)
  (fun op x k bad => x1 x (pUn op) k bad)
  (fun c x k bad => x1s x (pConv c) k bad)
  (fun n x k bad => x1 x (pS2ap n) k bad)
  (fun t x k bad => x1 x (pIface t) k bad)
  (fun fn a c k bad => argsK a (fun g => argsK c (fun h => k fun _ f st kk => thenQ (pFunc fn (g f) (h f) st) kk) bad) bad)
  (fun r k bad => optK r (fun g => k fun _ f st kk => thenS (pMkMap (g f) st) kk) bad)
  (fun e bytes z l c k bad => x2s l c (pMake e bytes z) k bad)
  (fun x lo hi k bad => argK x (fun g => optK lo (fun h => optK hi (fun j => k fun _ f st kk => thenQ (pSliceStr (g f) (h f) (j f) st) kk) bad) bad) bad)
  (fun size x lo hi k bad => argK x (fun g => optK lo (fun h => optK hi (fun j => k fun _ f st kk => thenQ (pSliceSl size (g f) (h f) (j f) st) kk) bad) bad) bad)
  (fun size x lo hi mx k bad => argK x (fun g => optK lo (fun h => argK hi (fun j => argK mx (fun i => k fun _ f st kk => thenQ (pSlice3 size (g f) (h f) (j f) (i f) st) kk) bad) bad) bad) bad)
  (fun n size x lo hi k bad => argK x (fun g => optK lo (fun h => optK hi (fun j => k fun _ f st kk => thenQ (pSliceArr n size (g f) (h f) (j f) st) kk) bad) bad) bad)
  (fun off x k bad => x1r x (hFieldAddr off) k bad)
  (fun agg off size x k bad => x1 x (hField agg off size) k bad)
  (fun n size x i k bad => x2r x i (hIdxArr n size) k bad)
  (fun size x i k bad => x2r x i (hIdxSl size) k bad)
  (fun x i k bad => x2 x i hIdxStr k bad)
  (fun n size agg x i k bad => x2 x i (pIdxAgg n size agg) k bad)
  (fun d z ok x y k bad => x2 x y (pLookup d z ok) k bad)
  (fun d m y x k bad => x3s m y x (pMapUpdate d) k bad)
  (fun d z m y k bad => x2s m y (pMapEntry d z) k bad)
  (fun m s x k bad => x3s m s x pEntryStore k bad)
  (fun x i k bad => x1r x (fun v st => hExtract v i st) k bad)
  (fun q x k bad => x1r x (pLen q) k bad)
  (fun e size bytes z q s x k bad => x2s s x (fun v u st => pAppend e size bytes v (srcOf q size z u st) st) k bad)
  (fun str size d s k bad => x2s d s (pCopy str size) k bad)
  (fun z x k bad => x1s x (pClear z) k bad)
  (fun mx x y k bad => x2 x y (pMM mx) k bad)
  (fun d m y k bad => x2s m y (pDelete d) k bad)
  (fun c args k bad => argsK args (fun g => k fun call f st kk => thenQ (call c (g f) st) kk) bad)
  (fun c args k bad => argK c (fun h => argsK args (fun g => k fun call f st kk => thenQ (pCallv call (h f) (g f) st) kk) bad) bad) op

theorem opXK_eq {β : Type} (op : COp) (k : OpX → β) (bad : β) : (∃ s, OpOK op s ∧ opXK op k bad = k s) ∨ opXK op k bad = bad := by
  have e1 : ∀ (a : CArg) (F : CV → St → OR), (∀ call fr st, runOp call op fr st = F (ev fr a) st) → opXK op k bad = x1 a F k bad → (∃ s, OpOK op s ∧ opXK op k bad = k s) ∨ opXK op k bad = bad := fun a F h1 h2 => by
    rw [h2]
    rcases x1_eq (k := k) (bad := bad) a F with ⟨s, hs, e⟩ | e
    · exact .inl ⟨s, fun call f fr st kk h => by rw [hs call f fr st kk h, h1], e⟩
    · exact .inr e
  have e1r : ∀ (a : CArg) (F : CV → St → OR), (∀ call fr st, runOp call op fr st = F (ev fr a) st) → opXK op k bad = x1r a F k bad → (∃ s, OpOK op s ∧ opXK op k bad = k s) ∨ opXK op k bad = bad := fun a F h1 h2 => by
    rw [h2]
    rcases x1r_eq (k := k) (bad := bad) a F with ⟨s, hs, e⟩ | e
    · exact .inl ⟨s, fun call f fr st kk h => by rw [hs call f fr st kk h, h1], e⟩
    · exact .inr e
  have e1s : ∀ (a : CArg) (F : CV → St → OR), (∀ call fr st, runOp call op fr st = F (ev fr a) st) → opXK op k bad = x1s a F k bad → (∃ s, OpOK op s ∧ opXK op k bad = k s) ∨ opXK op k bad = bad := fun a F h1 h2 => by
    rw [h2]
    rcases x1s_eq (k := k) (bad := bad) a F with ⟨s, hs, e⟩ | e
    · exact .inl ⟨s, fun call f fr st kk h => by rw [hs call f fr st kk h, h1], e⟩
    · exact .inr e
  have e2 : ∀ (a b : CArg) (F : CV → CV → St → OR), (∀ call fr st, runOp call op fr st = F (ev fr a) (ev fr b) st) → opXK op k bad = x2 a b F k bad → (∃ s, OpOK op s ∧ opXK op k bad = k s) ∨ opXK op k bad = bad := fun a b F h1 h2 => by
    rw [h2]
    rcases x2_eq (k := k) (bad := bad) a b F with ⟨s, hs, e⟩ | e
    · exact .inl ⟨s, fun call f fr st kk h => by rw [hs call f fr st kk h, h1], e⟩
    · exact .inr e
  have e2r : ∀ (a b : CArg) (F : CV → CV → St → OR), (∀ call fr st, runOp call op fr st = F (ev fr a) (ev fr b) st) → opXK op k bad = x2r a b F k bad → (∃ s, OpOK op s ∧ opXK op k bad = k s) ∨ opXK op k bad = bad := fun a b F h1 h2 => by
    rw [h2]
    rcases x2r_eq (k := k) (bad := bad) a b F with ⟨s, hs, e⟩ | e
    · exact .inl ⟨s, fun call f fr st kk h => by rw [hs call f fr st kk h, h1], e⟩
    · exact .inr e
  have e2s : ∀ (a b : CArg) (F : CV → CV → St → OR), (∀ call fr st, runOp call op fr st = F (ev fr a) (ev fr b) st) → opXK op k bad = x2s a b F k bad → (∃ s, OpOK op s ∧ opXK op k bad = k s) ∨ opXK op k bad = bad := fun a b F h1 h2 => by
    rw [h2]
    rcases x2s_eq (k := k) (bad := bad) a b F with ⟨s, hs, e⟩ | e
    · exact .inl ⟨s, fun call f fr st kk h => by rw [hs call f fr st kk h, h1], e⟩
    · exact .inr e
  have e3s : ∀ (a b c : CArg) (F : CV → CV → CV → St → OR), (∀ call fr st, runOp call op fr st = F (ev fr a) (ev fr b) (ev fr c) st) → opXK op k bad = x3s a b c F k bad → (∃ s, OpOK op s ∧ opXK op k bad = k s) ∨ opXK op k bad = bad := fun a b c F h1 h2 => by
    rw [h2]
    rcases x3s_eq (k := k) (bad := bad) a b c F with ⟨s, hs, e⟩ | e
    · exact .inl ⟨s, fun call f fr st kk h => by rw [hs call f fr st kk h, h1], e⟩
    · exact .inr e
  cases op with
  | mov x =>
    rcases argK_eq x (fun g => k fun _ f st kk => forceV (g f) fun v => kk v st) bad with ⟨g, hg, e⟩ | e
    · exact .inl ⟨_, fun call f fr st kk h => by rw [forceV_eq, hg f fr h]; rfl, e⟩
    · exact .inr e
  | pick c a b =>
    show (∃ s, OpOK _ s ∧ argK c (fun g => argK a (fun h => argK b (fun j => k fun _ f st kk => thenQ (pPick (g f) (h f) (j f) st) kk) bad) bad) bad = k s) ∨ argK c (fun g => argK a (fun h => argK b (fun j => k fun _ f st kk => thenQ (pPick (g f) (h f) (j f) st) kk) bad) bad) bad = bad
    rcases argK_eq c (fun g => argK a (fun h => argK b (fun j => k fun _ f st kk => thenQ (pPick (g f) (h f) (j f) st) kk) bad) bad) bad with ⟨g, hg, e⟩ | e
    · rw [e]
      rcases argK_eq a (fun h => argK b (fun j => k fun _ f st kk => thenQ (pPick (g f) (h f) (j f) st) kk) bad) bad with ⟨h, hh, e2⟩ | e2
      · rw [e2]
        rcases argK_eq b (fun j => k fun _ f st kk => thenQ (pPick (g f) (h f) (j f) st) kk) bad with ⟨j, hj, e3⟩ | e3
        · exact .inl ⟨_, fun call f fr st kk hr => by rw [thenQ_eq, hg f fr hr, hh f fr hr, hj f fr hr]; rfl, e3⟩
        · exact .inr e3
      · exact .inr e2
    · exact .inr e
  | new t z => exact .inl ⟨_, fun call f fr st kk h => by rw [thenS_eq]; rfl, rfl⟩
  | box t x => exact e1s x (fun v st => v.segs.force fun s => pNew t s st) (fun _ _ _ => rfl) rfl
  | build z parts =>
    rcases partsK_eq parts (fun g => k fun _ f st kk => thenQ (pBuild z (g f) st) kk) bad with ⟨g, hg, e⟩ | e
    · exact .inl ⟨_, fun call f fr st kk h => by rw [thenQ_eq, hg f fr h]; rfl, e⟩
    · exact .inr e
  | buildSlice e' len z parts =>
    rcases partsK_eq parts (fun g => k fun _ f st kk => thenS (pBuildSlice e' len (repS len z) (g f) st) kk) bad with ⟨g, hg, e⟩ | e
    · exact .inl ⟨_, fun call f fr st kk h => by rw [thenS_eq, hg f fr h]; rfl, e⟩
    · exact .inr e
  | load1 a => exact e1r a _ (fun _ _ _ => (hLoad1_eq _ _).symm) rfl
  | loadN n a => exact e1r a _ (fun _ _ _ => (hLoadN_eq _ _ _).symm) rfl
  | store n a x => exact e2s a x _ (fun _ _ _ => (hStore_eq _ _ _ _).symm) rfl
  | nil x => exact e1r x _ (fun _ _ _ => rfl) rfl
  | bin op d cst x y => exact e2r x y (fun v u st => hBin v u op d cst st) (fun _ _ _ => (hBin_eq ..).symm) rfl
  | un op x => exact e1 x _ (fun _ _ _ => rfl) rfl
  | conv c x => exact e1s x _ (fun _ _ _ => rfl) rfl
  | s2ap n x => exact e1 x _ (fun _ _ _ => rfl) rfl
  | iface t x => exact e1 x _ (fun _ _ _ => rfl) rfl
  | func fn a c =>
    rcases argsK_eq a (fun g => argsK c (fun h => k fun _ f st kk => thenQ (pFunc fn (g f) (h f) st) kk) bad) bad with ⟨g, hg, e⟩ | e
    · rcases argsK_eq c (fun h => k fun _ f st kk => thenQ (pFunc fn (g f) (h f) st) kk) bad with ⟨h, hh, e2⟩ | e2
      · exact .inl ⟨_, fun call f fr st kk hr => by rw [thenQ_eq, hg f fr hr, hh f fr hr]; rfl, e.trans e2⟩
      · exact .inr (e.trans e2)
    · exact .inr e
  | mkMap r =>
    rcases optK_eq r (fun g => k fun _ f st kk => thenS (pMkMap (g f) st) kk) bad with ⟨g, hg, e⟩ | e
    · exact .inl ⟨_, fun call f fr st kk h => by rw [thenS_eq, hg f fr h]; rfl, e⟩
    · exact .inr e
  | mkSlice e' bytes z l c => exact e2s l c _ (fun _ _ _ => rfl) rfl
  | sliceStr x lo hi =>
    rcases argK_eq x (fun g => optK lo (fun h => optK hi (fun j => k fun _ f st kk => thenQ (pSliceStr (g f) (h f) (j f) st) kk) bad) bad) bad with ⟨g, hg, e⟩ | e
    · rcases optK_eq lo (fun h => optK hi (fun j => k fun _ f st kk => thenQ (pSliceStr (g f) (h f) (j f) st) kk) bad) bad with ⟨h, hh, e2⟩ | e2
      · rcases optK_eq hi (fun j => k fun _ f st kk => thenQ (pSliceStr (g f) (h f) (j f) st) kk) bad with ⟨j, hj, e3⟩ | e3
        · exact .inl ⟨_, fun call f fr st kk hr => by rw [thenQ_eq, hg f fr hr, hh f fr hr, hj f fr hr]; rfl, e.trans (e2.trans e3)⟩
        · exact .inr (e.trans (e2.trans e3))
      · exact .inr (e.trans e2)
    · exact .inr e
  | sliceSl size x lo hi =>
    rcases argK_eq x (fun g => optK lo (fun h => optK hi (fun j => k fun _ f st kk => thenQ (pSliceSl size (g f) (h f) (j f) st) kk) bad) bad) bad with ⟨g, hg, e⟩ | e
    · rcases optK_eq lo (fun h => optK hi (fun j => k fun _ f st kk => thenQ (pSliceSl size (g f) (h f) (j f) st) kk) bad) bad with ⟨h, hh, e2⟩ | e2
      · rcases optK_eq hi (fun j => k fun _ f st kk => thenQ (pSliceSl size (g f) (h f) (j f) st) kk) bad with ⟨j, hj, e3⟩ | e3
        · exact .inl ⟨_, fun call f fr st kk hr => by rw [thenQ_eq, hg f fr hr, hh f fr hr, hj f fr hr]; rfl, e.trans (e2.trans e3)⟩
        · exact .inr (e.trans (e2.trans e3))
      · exact .inr (e.trans e2)
    · exact .inr e
  | slice3 size x lo hi mx =>
    rcases argK_eq x (fun g => optK lo (fun h => argK hi (fun j => argK mx (fun i => k fun _ f st kk => thenQ (pSlice3 size (g f) (h f) (j f) (i f) st) kk) bad) bad) bad) bad with ⟨g, hg, e⟩ | e
    · rcases optK_eq lo (fun h => argK hi (fun j => argK mx (fun i => k fun _ f st kk => thenQ (pSlice3 size (g f) (h f) (j f) (i f) st) kk) bad) bad) bad with ⟨h, hh, e2⟩ | e2
      · rcases argK_eq hi (fun j => argK mx (fun i => k fun _ f st kk => thenQ (pSlice3 size (g f) (h f) (j f) (i f) st) kk) bad) bad with ⟨j, hj, e3⟩ | e3
        · rcases argK_eq mx (fun i => k fun _ f st kk => thenQ (pSlice3 size (g f) (h f) (j f) (i f) st) kk) bad with ⟨i, hi', e4⟩ | e4
          · exact .inl ⟨_, fun call f fr st kk hr => by rw [thenQ_eq, hg f fr hr, hh f fr hr, hj f fr hr, hi' f fr hr]; rfl, e.trans (e2.trans (e3.trans e4))⟩
          · exact .inr (e.trans (e2.trans (e3.trans e4)))
        · exact .inr (e.trans (e2.trans e3))
      · exact .inr (e.trans e2)
    · exact .inr e
  | sliceArr n size x lo hi =>
    rcases argK_eq x (fun g => optK lo (fun h => optK hi (fun j => k fun _ f st kk => thenQ (pSliceArr n size (g f) (h f) (j f) st) kk) bad) bad) bad with ⟨g, hg, e⟩ | e
    · rcases optK_eq lo (fun h => optK hi (fun j => k fun _ f st kk => thenQ (pSliceArr n size (g f) (h f) (j f) st) kk) bad) bad with ⟨h, hh, e2⟩ | e2
      · rcases optK_eq hi (fun j => k fun _ f st kk => thenQ (pSliceArr n size (g f) (h f) (j f) st) kk) bad with ⟨j, hj, e3⟩ | e3
        · exact .inl ⟨_, fun call f fr st kk hr => by rw [thenQ_eq, hg f fr hr, hh f fr hr, hj f fr hr]; rfl, e.trans (e2.trans e3)⟩
        · exact .inr (e.trans (e2.trans e3))
      · exact .inr (e.trans e2)
    · exact .inr e
  | fieldAddr off x => exact e1r x _ (fun _ _ _ => (hFieldAddr_eq ..).symm) rfl
  | field agg off size x => exact e1 x _ (fun _ _ _ => (hField_eq ..).symm) rfl
  | idxArr n size x i => exact e2r x i _ (fun _ _ _ => (hIdxArr_eq ..).symm) rfl
  | idxSl size x i => exact e2r x i _ (fun _ _ _ => (hIdxSl_eq ..).symm) rfl
  | idxStr x i => exact e2 x i _ (fun _ _ _ => (hIdxStr_eq ..).symm) rfl
  | idxAgg n size agg x i => exact e2 x i _ (fun _ _ _ => rfl) rfl
  | lookup d z ok x y => exact e2 x y _ (fun _ _ _ => rfl) rfl
  | mapUpdate d m y x => exact e3s m y x _ (fun _ _ _ => rfl) rfl
  | mapEntry d z m y => exact e2s m y _ (fun _ _ _ => rfl) rfl
  | entryStore m s x => exact e3s m s x _ (fun _ _ _ => rfl) rfl
  | extract x i => exact e1r x (fun v st => hExtract v i st) (fun _ _ _ => (hExtract_eq ..).symm) rfl
  | len q x => exact e1r x _ (fun _ _ _ => rfl) rfl
  | append e' size bytes z q s x => exact e2s s x (fun v u st => pAppend e' size bytes v (srcOf q size z u st) st) (fun _ _ _ => rfl) rfl
  | copy str size d s => exact e2s d s _ (fun _ _ _ => rfl) rfl
  | clear z x => exact e1s x _ (fun _ _ _ => rfl) rfl
  | minmax mx x y => exact e2 x y _ (fun _ _ _ => rfl) rfl
  | delete d m y => exact e2s m y _ (fun _ _ _ => rfl) rfl
  | call c args =>
    rcases argsK_eq args (fun g => k fun call f st kk => thenQ (call c (g f) st) kk) bad with ⟨g, hg, e⟩ | e
    · exact .inl ⟨_, fun call f fr st kk h => by rw [thenQ_eq, hg f fr h]; rfl, e⟩
    · exact .inr e
  | callv c args =>
    rcases argK_eq c (fun h => argsK args (fun g => k fun call f st kk => thenQ (pCallv call (h f) (g f) st) kk) bad) bad with ⟨h, hh, e⟩ | e
    · rcases argsK_eq args (fun g => k fun call f st kk => thenQ (pCallv call (h f) (g f) st) kk) bad with ⟨g, hg, e2⟩ | e2
      · exact .inl ⟨_, fun call f fr st kk hr => by rw [thenQ_eq, hg f fr hr, hh f fr hr]; rfl, e.trans e2⟩
      · exact .inr (e.trans e2)
    · exact .inr e
end Sim

/- Sim, part 32: operations that do not look at the memory; which readers must be asked again. -/
namespace Sim
open Go

/- bare operations -/
noncomputable def COp.bare : COp → Bool
  | .mov _ | .pick .. | .nil _ | .un .. | .s2ap .. | .iface .. | .func .. | .sliceStr .. | .sliceSl .. | .slice3 .. | .sliceArr .. | .fieldAddr .. | .field .. => true
  | .idxArr .. | .idxSl .. | .idxStr .. | .idxAgg .. | .extract .. | .minmax .. | .bin .. | .build .. => true
  | .conv c _ => (match c with | .toInt _ | .same => true | _ => false)
  | .len k _ => (match k with | .map => false | _ => true)
  | _ => false
structure Same (x y : OR) : Prop where
  eq : ∀ v s, x = .ok v s → ∃ s', y = .ok v s'
section
variable {st st' : St}
theorem Same.bad {y : OR} : Same .bad y := ⟨fun _ _ h => by cases h⟩
theorem Same.ok (v : CV) : Same (.ok v st) (.ok v st') := ⟨fun _ _ h => by cases h; exact ⟨_, rfl⟩⟩
theorem Same.bsel {b : Bool} {x y x' y' : OR} (hx : Same x x') (hy : Same y y') : Same (bsel b x y) (bsel b x' y') := by cases b; exact hy; exact hx
theorem Same.opt {α : Type} {x : Option α} {n n' : OR} {f f' : α → OR} (hn : Same n n') (h : ∀ v, Same (f v) (f' v)) : Same (Option.rec (motive := fun _ => OR) n f x) (Option.rec (motive := fun _ => OR) n' f' x) := by cases x; exact hn; exact h _
theorem Same.forceN {n : Nat} {f f' : Nat → OR} (h : ∀ v, Same (f v) (f' v)) : Same (Sim.forceN n f) (Sim.forceN n f') := by rw [forceN_eq, forceN_eq]; exact h _
theorem Same.forceZ {n : Int} {f f' : Int → OR} (h : ∀ v, Same (f v) (f' v)) : Same (Sim.forceZ n f) (Sim.forceZ n f') := by rw [forceZ_eq, forceZ_eq]; exact h _
theorem Same.okZ {k : IntKind} {n : Int} : Same (Sim.okZ k st n) (Sim.okZ k st' n) := Same.ok _
theorem Same.okN {k : IntKind} {n : Nat} : Same (Sim.okN k st n) (Sim.okN k st' n) := Same.ok _
theorem Same.forceG {s : Segs CV} {f f' : Segs CV → OR} (h : ∀ v, Same (f v) (f' v)) : Same (Segs.force s f) (Segs.force s f') := by rw [Segs.force_eq, Segs.force_eq]; exact h _
theorem Same.okB {b : Bool} : Same (Sim.okB b st) (Sim.okB b st') := by rw [okB_eq, okB_eq]; exact Same.ok _
end
theorem runOp_bare {call : CallF} {op : COp} {fr : Fr} {st st' : St} (h : op.bare = true) : Same (runOp call op fr st) (runOp call op fr st') := by
  cases op <;> first | (cases h; done) | skip
  all_goals
    simp only [runOp]
    first
      | exact Same.ok _
      | (first | unfold pPick | unfold pNil | unfold pUn | unfold pConv | unfold pS2ap | unfold pIface | unfold pFunc | unfold pSliceStr | unfold pSliceSl | unfold pSlice3
               | unfold pSliceArr | unfold pFieldAddr | unfold pField | unfold pIdxArr | unfold pIdxSl | unfold pIdxStr | unfold pIdxAgg | unfold pExtract | unfold pLen | unfold pMM | unfold pBin | unfold pBuild)
  all_goals repeat' first
    | exact Same.ok _
    | exact Same.bad
    | exact Same.okB
    | exact Same.okZ
    | exact Same.okN
    | (cases h; done)
    | apply Same.bsel
    | apply Same.opt
    | apply Same.forceN
    | apply Same.forceZ
    | apply Same.forceG
    | (intro _)
    | (split <;> try dsimp only)
    | (unfold pInt)
    | (unfold pInt2)
    | (unfold pStr)
    | (unfold pEq)
    | (unfold pBits)
    | (unfold pCapLess)
end Sim

/- Sim, part 33: code as closures. (Printed by genx4.py.) -/
namespace Sim
open Go

noncomputable def onG (v : CV) : Bool → Rx → Rx → Rx := CV.rec (motive_1 := fun _ => Bool → Rx → Rx → Rx) (motive_2 := fun _ => PUnit) (fun _ _ skip => skip) (fun b want run skip => bsel (bsel want b (Bool.not b)) run skip) (fun _ _ => fun _ _ _ => .bad) (fun _ _ => fun _ _ _ => .bad) (fun _ _ _ => .bad) (fun _ _ => fun _ _ _ => .bad) (fun _ _ _ => .bad) (fun _ _ _ _ _ => fun _ _ _ => .bad) (fun _ _ _ => .bad) (fun _ => fun _ _ _ => .bad) (fun _ _ _ _ _ => fun _ _ _ => .bad) (fun _ _ _ => .bad) (fun _ _ _ => fun _ _ _ => .bad) (fun _ _ _ => .bad) (fun _ _ => fun _ _ _ => .bad) (fun _ _ => fun _ _ _ => .bad) (fun _ => fun _ _ _ => .bad) PUnit.unit (fun _ _ _ _ => PUnit.unit) (fun _ _ _ _ => PUnit.unit) v 
noncomputable def onBx (v : CV) : Rx → Rx → Rx := CV.rec (motive_1 := fun _ => Rx → Rx → Rx) (motive_2 := fun _ => PUnit) (fun _ _ => .bad) (fun b x y => Bool.rec (motive := fun _ => Rx) y x b) (fun _ _ => fun _ _ => .bad) (fun _ _ => fun _ _ => .bad) (fun _ _ => .bad) (fun _ _ => fun _ _ => .bad) (fun _ _ => .bad) (fun _ _ _ _ _ => fun _ _ => .bad) (fun _ _ => .bad) (fun _ => fun _ _ => .bad) (fun _ _ _ _ _ => fun _ _ => .bad) (fun _ _ => .bad) (fun _ _ _ => fun _ _ => .bad) (fun _ _ => .bad) (fun _ _ => fun _ _ => .bad) (fun _ _ => fun _ _ => .bad) (fun _ => fun _ _ => .bad) PUnit.unit (fun _ _ _ _ => PUnit.unit) (fun _ _ _ _ => PUnit.unit) v 
theorem onG_eq (v : CV) (want : Bool) (run skip : Rx) : onG v want run skip = (match v with | .bool c => bsel (bsel want c (Bool.not c)) run skip | .undef => skip | _ => .bad) := by cases v <;> rfl
theorem onBx_eq (v : CV) (x y : Rx) : onBx v x y = (match v with | .bool t => bsel t x y | _ => .bad) := by cases v <;> rfl
abbrev CodeX := CallF → Fx → St → Rx
abbrev WrX := Fx → CV → St → (Fx → St → Rx) → Rx

noncomputable def dstXK {β : Type} (n : Nat) (d : Option Tmp) (k : WrX → β) (bad : β) : β :=
  Option.rec (motive := fun _ => β) (k fun f _ st kk => kk f st) (fun d => bsel (Nat.ble (Nat.succ d) n) (xputK d (fun pd => k fun f v st kk => pd f v fun f => kk f st) bad) bad) d
def DstOK (n : Nat) (d : Option Tmp) (wr : WrX) : Prop := (∀ f v st kk, wr f v st kk = match d with | none => kk f st | some d => kk (xput d f v) st) ∧ ∀ d', d = some d' → d' < n ∧ d' < 256
theorem dstXK_eq {β : Type} (n : Nat) (d : Option Tmp) (k : WrX → β) (bad : β) : (∃ wr, DstOK n d wr ∧ dstXK n d k bad = k wr) ∨ dstXK n d k bad = bad := by
  cases d with
  | none => exact .inl ⟨_, ⟨fun _ _ _ _ => rfl, fun d h => by cases h⟩, rfl⟩
  | some d =>
    show (∃ wr, DstOK n (some d) wr ∧ bsel (Nat.ble (Nat.succ d) n) (xputK d (fun pd => k fun f v st kk => pd f v fun f => kk f st) bad) bad = k wr) ∨ bsel (Nat.ble (Nat.succ d) n) (xputK d (fun pd => k fun f v st kk => pd f v fun f => kk f st) bad) bad = bad
    rw [bsel_eq]
    split
    · rename_i hd
      have hd' : d < n := by rw [Nat.ble_eq] at hd; exact hd
      rcases xputK_eq (R := Rx) d (fun pd => k fun f v st kk => pd f v fun f => kk f st) bad with ⟨hi, p, hp, e⟩ | ⟨_, e⟩
      · exact .inl ⟨_, ⟨fun f v st kk => hp f v _, fun d' h => by cases h; exact ⟨hd', hi⟩⟩, e⟩
      · exact .inr e
    · exact .inr rfl

noncomputable def guardXK {β : Type} (ops : Array Oper) (g : Option (Nat × Bool)) (s : OpX) (wr : WrX) (k : StepX → β) (bad : β) : β :=
  Option.rec (motive := fun _ => β) (k fun call f st kk => s call f st fun v st => wr f v st kk)
    (fun gb => Option.rec (motive := fun _ => β) (k fun _ f st kk => wr f .undef st kk)
      (fun d => xgetK d (fun gg => k fun call f st kk => onG (gg f) gb.2 (s call f st fun v st => wr f v st kk) (wr f .undef st kk)) bad) ((ops[gb.1]?).bind (·.dst))) g
noncomputable def stepXK {β : Type} (P : Program) (n : Nat) (ops : Array Oper) (o : Oper) (k : StepX → β) (bad : β) : β :=
  Option.rec (motive := fun _ => β) bad (fun op => opXK op (fun s => dstXK n o.dst (fun wr => guardXK ops o.guard s wr k bad) bad) bad) (compOpT P o.op)
def StepOK (P : Program) (n : Nat) (ops : Array Oper) (o : Oper) (s : StepX) : Prop := ∀ call f fr st kk, XR f fr → s call f st kk = .bad ∨
  ∃ v st', stepC P call ops o fr st = .ok v st' ∧ (match o.dst with | none => s call f st kk = kk f st' | some d => d < n ∧ d < 256 ∧ s call f st kk = kk (xput d f v) st')
theorem stepXK_eq {β : Type} (P : Program) (n : Nat) (ops : Array Oper) (o : Oper) (k : StepX → β) (bad : β) : (∃ s, StepOK P n ops o s ∧ stepXK P n ops o k bad = k s) ∨ stepXK P n ops o k bad = bad := by
  unfold stepXK
  cases hop : compOpT P o.op with
  | none => exact .inr rfl
  | some op =>
    dsimp only
    rcases opXK_eq op (fun s => dstXK n o.dst (fun wr => guardXK ops o.guard s wr k bad) bad) bad with ⟨s, hs, e⟩ | e
    · rcases dstXK_eq n o.dst (fun wr => guardXK ops o.guard s wr k bad) bad with ⟨wr, hwr, e2⟩ | e2
      · rw [e, e2]
        -- what a step does, once it is known whether it is wanted
        have fin : ∀ call f fr st kk, XR f fr → wantedC ops fr o = some true → (s call f st fun v st => wr f v st kk) = .bad ∨
            ∃ v st', stepC P call ops o fr st = .ok v st' ∧ (match o.dst with | none => (s call f st fun v st => wr f v st kk) = kk f st' | some d => d < n ∧ d < 256 ∧ (s call f st fun v st => wr f v st kk) = kk (xput d f v) st') := by
          intro call f fr st kk h hw
          rw [hs call f fr st _ h, stepC_eq, hw, hop]
          dsimp only
          cases runOp call op fr st with
          | bad => exact .inl rfl
          | ok v st' =>
            refine .inr ⟨v, st', rfl, ?_⟩
            have h1 := hwr.1 f v st' kk
            cases hd : o.dst with
            | none => rw [hd] at h1; exact h1
            | some d => rw [hd] at h1; exact ⟨(hwr.2 d hd).1, (hwr.2 d hd).2, h1⟩
        have skp : ∀ call f fr st kk, wantedC ops fr o = some false → 
            ∃ v st', stepC P call ops o fr st = .ok v st' ∧ (match o.dst with | none => wr f .undef st kk = kk f st' | some d => d < n ∧ d < 256 ∧ wr f .undef st kk = kk (xput d f v) st') := by
          intro call f fr st kk hw
          rw [stepC_eq, hw]
          refine ⟨.undef, st, rfl, ?_⟩
          have h1 := hwr.1 f .undef st kk
          cases hd : o.dst with
          | none => rw [hd] at h1; exact h1
          | some d => rw [hd] at h1; exact ⟨(hwr.2 d hd).1, (hwr.2 d hd).2, h1⟩
        unfold guardXK
        cases hg : o.guard with
        | none =>
          refine .inl ⟨_, ?_, rfl⟩
          intro call f fr st kk h
          exact fin call f fr st kk h (by rw [wantedC_eq, hg])
        | some gb =>
          obtain ⟨g, want⟩ := gb
          dsimp only
          cases hb : (ops[g]?).bind (·.dst) with
          | none =>
            refine .inl ⟨_, ?_, rfl⟩
            intro call f fr st kk h
            exact .inr (skp call f fr st kk (by rw [wantedC_eq, hg]; dsimp only; rw [hb]))
          | some d =>
            dsimp only
            rcases xgetK_eq d (fun gg => k fun call f st kk => onG (gg f) want (s call f st fun v st => wr f v st kk) (wr f .undef st kk)) bad with ⟨hi, gg, hgg, e3⟩ | ⟨_, e3⟩
            · refine .inl ⟨_, ?_, e3⟩
              intro call f fr st kk h
              dsimp only
              rw [onG_eq, hgg f, h d hi]
              have hwc : wantedC ops fr o = (match fget fr (Bp.enc d) with | .bool c => some (bsel want c (Bool.not c)) | .undef => some false | _ => none) := by
                rw [wantedC_eq, hg]; dsimp only; rw [hb]; try rfl
              generalize fget fr (Bp.enc d) = cv at hwc ⊢
              cases cv with
              | bool c =>
                dsimp only at hwc ⊢
                cases hbb : bsel want c (Bool.not c) with
                | true => rw [hbb] at hwc; exact fin call f fr st kk h hwc
                | false => rw [hbb] at hwc; exact .inr (skp call f fr st kk hwc)
              | undef => exact .inr (skp call f fr st kk hwc)
              | _ => exact .inl rfl
            · exact .inr e3
      · exact .inr (e.trans e2)
    · exact .inr e

noncomputable def opsXK {β : Type} (P : Program) (n : Nat) (ops : Array Oper) (l : List Oper) : (StepX → β) → β :=
  List.rec (motive := fun _ => (StepX → β) → β) (fun k => k fun _ f st kk => kk f st)
    (fun o _ ih k => stepXK P n ops o (fun s => ih fun r => k fun call f st kk => s call f st fun f st => r call f st kk) (k fun _ _ _ _ => .bad)) l
def OpsOK (P : Program) (n : Nat) (ops : Array Oper) (l : List Oper) (s : StepX) : Prop := ∀ call f fr st kk, XR f fr → s call f st kk = .bad ∨
  ∃ f' fr' st', runOps P call n ops l fr st = .norm fr' st' ∧ XR f' fr' ∧ s call f st kk = kk f' st'
theorem opsXK_eq {β : Type} (P : Program) (n : Nat) (ops : Array Oper) : ∀ (l : List Oper) (k : StepX → β), ∃ s, OpsOK P n ops l s ∧ opsXK P n ops l k = k s := by
  intro l
  induction l with
  | nil => intro k; exact ⟨_, fun call f fr st kk h => .inr ⟨f, fr, st, runOps_nil fr st, h, rfl⟩, rfl⟩
  | cons o l ih =>
    intro k
    have e0 : opsXK P n ops (o :: l) k = stepXK P n ops o (fun s => opsXK P n ops l fun r => k fun call f st kk => s call f st fun f st => r call f st kk) (k fun _ _ _ _ => .bad) := rfl
    rcases stepXK_eq P n ops o (fun s => opsXK P n ops l fun r => k fun call f st kk => s call f st fun f st => r call f st kk) (k fun _ _ _ _ => .bad) with ⟨s, hs, e⟩ | e
    · obtain ⟨r, hr, e2⟩ := ih (fun r => k fun call f st kk => s call f st fun f st => r call f st kk)
      refine ⟨_, ?_, e0.trans (e.trans e2)⟩
      intro call f fr st kk h
      rcases hs call f fr st (fun f st => r call f st kk) h with hb | ⟨v, st', h1, h2⟩
      · exact .inl hb
      · rw [runOps_cons, h1]
        cases hd : o.dst with
        | none =>
          rw [hd] at h2
          dsimp only at h2 ⊢
          rw [h2]
          exact hr call f fr st' kk h
        | some d =>
          rw [hd] at h2
          dsimp only at h2 ⊢
          obtain ⟨g1, g2, g3⟩ := h2
          rw [g3, if_pos g1]
          exact hr call _ _ st' kk (h.put g2 v)
    · exact ⟨_, fun call f fr st kk h => .inl rfl, e0.trans e⟩

end Sim
