import Derived.Test.YtfojoloiahhphaaGreatDoorSimStep
/- Sim, part 21: code, and calls. -/
namespace Sim
open Go

abbrev DrawF := CallF → Nat → Array Oper → Fr → St → Rs
noncomputable def thenC (r : Rs) (k : Fr → St → Rs) : Rs :=
  Rs.rec (motive := fun _ => (Fr → St → Rs) → Rs) (fun fr st k => k fr st) (fun id fr st _ => .exit id fr st) (fun fr st _ => .ret fr st) (fun _ => .bad) r k
noncomputable def inBlockC (id : Nat) (r : Rs) : Rs :=
  Rs.rec (motive := fun _ => Nat → Rs) (fun fr st _ => .norm fr st) (fun i fr st id => bsel (Nat.beq i id) (.norm fr st) (.exit i fr st)) (fun fr st _ => .ret fr st) (fun _ => .bad) r id
noncomputable def loopC (body : Fr → St → Rs) (fuel : Nat) (fr : Fr) (st : St) : Rs :=
  Nat.rec (motive := fun _ => (Fr → St → Rs) → Fr → St → Rs) (fun _ _ _ => .bad) (fun _ ih body fr st => thenC (body fr st) (ih body)) fuel body fr st
noncomputable def condC (c : Operand) (x y : Fr → St → Rs) (fr : Fr) (st : St) : Rs :=
  match cArg c with | some c => (match ev fr c with | .bool t => bsel t (x fr st) (y fr st) | _ => .bad) | none => .bad

abbrev ExecF := Program → CallF → DrawF → Nat → Fr → St → Rs
noncomputable def exec (P : Program) (call : CallF) (dr : DrawF) (n : Nat) (c : Code) (fr : Fr) (st : St) : Rs :=
  Code.rec (motive := fun _ => ExecF)
    (fun _ _ _ _ fr st => .norm fr st)
    (fun _ ops draw P call dr n fr st => bsel draw (dr call n ops fr st) (runOps P call n ops ops.toList fr st))
    (fun _ _ x y P call dr n fr st => thenC (x P call dr n fr st) (y P call dr n))
    (fun c _ _ x y P call dr n fr st => condC c (x P call dr n) (y P call dr n) fr st)
    (fun id _ x P call dr n fr st => inBlockC id (x P call dr n fr st))
    (fun _ x P call dr n fr st => loopC (x P call dr n) 1000000 fr st)
    (fun _ _ _ _ _ _ _ _ _ _ _ _ => .bad)
    (fun id _ _ _ _ fr st => .exit id fr st)
    (fun _ x P call dr n fr st => x P call dr n fr st)
    (fun _ _ _ _ _ fr st => .norm fr st)
    (fun _ _ _ _ _ _ _ => .bad)
    (fun _ _ _ _ fr st => .ret fr st)
    (fun _ _ _ _ _ _ _ => .bad) c P call dr n fr st

def DrawSound (P : Program) (dr : DrawF) : Prop :=
  ∀ (call : CallF) (n : Nat), CallSound P call → ∀ (id : Nat) (ops : Array Oper) (fr : Fr) (st : St) (ρ : Ren) (a : Act) (w : World), dr call n ops fr st ≠ .bad → WR ρ st w → FR ρ fr a.tmps → n ≤ a.tmps.size → a.defers = [] →
    (Code.region id ops true).wp P (Post ρ st w n (dr call n ops fr st)) a w

section
variable {P : Program} {call : CallF} {dr : DrawF} {n : Nat}
/-- A piece of code does what its clean run does. -/
def Ok (P : Program) (n : Nat) (c : Code) (f : Fr → St → Rs) : Prop :=
  ∀ (fr : Fr) (st : St) (ρ : Ren) (a : Act) (w : World), f fr st ≠ .bad → WR ρ st w → FR ρ fr a.tmps → n ≤ a.tmps.size → a.defers = [] → c.wp P (Post ρ st w n (f fr st)) a w

theorem thenC_ok {x y : Code} {f g : Fr → St → Rs} (hx : Ok P n x f) (hy : Ok P n y g) : Ok P n (.seq x y) (fun fr st => thenC (f fr st) g) := by
  intro fr st ρ a w hb hw hf hn hd
  have h1 := hx fr st ρ a w
  refine wp_seq ?_
  dsimp only at hb ⊢
  generalize f fr st = r at hb h1 ⊢
  cases r with
  | bad => exact absurd rfl hb
  | norm fr1 st1 =>
    refine wp_mono (h1 (by simp) hw hf hn hd) ?_
    rintro e a1 w1 ⟨rfl, ρ1, hp⟩
    exact wp_mono (hy fr1 st1 ρ1 a1 w1 hb hp.after.wr hp.fr hp.sz hp.defers) (fun e a w h => Post.step hp.after h)
  | exit id fr1 st1 =>
    refine wp_mono (h1 (by simp) hw hf hn hd) ?_
    rintro e a1 w1 ⟨rfl, hp⟩
    exact ⟨rfl, hp⟩
  | ret fr1 st1 =>
    refine wp_mono (h1 (by simp) hw hf hn hd) ?_
    rintro e a1 w1 ⟨rfl, hp⟩
    exact ⟨rfl, hp⟩

theorem inBlockC_ok {x : Code} {f : Fr → St → Rs} {id : Nat} (hx : Ok P n x f) : Ok P n (.block id x) (fun fr st => inBlockC id (f fr st)) := by
  intro fr st ρ a w hb hw hf hn hd
  have h1 := hx fr st ρ a w
  refine wp_block ?_
  dsimp only at hb ⊢
  generalize f fr st = r at hb h1 ⊢
  cases r with
  | bad => exact absurd rfl hb
  | norm fr1 st1 =>
    refine wp_mono (h1 (by simp) hw hf hn hd) ?_
    rintro e a1 w1 ⟨rfl, hp⟩
    exact ⟨rfl, hp⟩
  | exit i fr1 st1 =>
    refine wp_mono (h1 (by simp) hw hf hn hd) ?_
    rintro e a1 w1 ⟨rfl, hp⟩
    have e0 : inBlockC id (.exit i fr1 st1) = bsel (Nat.beq i id) (.norm fr1 st1) (.exit i fr1 st1) := rfl
    rw [e0]
    simp only [bsel_eq, Nat.beq_eq, Exit.inBlock]
    by_cases hi : i = id
    · simp only [if_pos hi]; exact ⟨rfl, hp⟩
    · simp only [if_neg hi]; exact ⟨rfl, hp⟩
  | ret fr1 st1 =>
    refine wp_mono (h1 (by simp) hw hf hn hd) ?_
    rintro e a1 w1 ⟨rfl, hp⟩
    exact ⟨rfl, hp⟩

theorem loopC_rounds {x : Code} {f : Fr → St → Rs} (hx : Ok P n x f) : ∀ (k : Nat) (fr : Fr) (st : St) (ρ : Ren) (a : Act) (w : World), loopC f k fr st ≠ .bad → WR ρ st w → FR ρ fr a.tmps → n ≤ a.tmps.size → a.defers = [] →
    Code.rounds P x (Post ρ st w n (loopC f k fr st)) k a w := by
  intro k
  have mono : ∀ {Q Q' : Exit → Act → World → Prop} (h : ∀ e a w, Q e a w → Q' e a w) (k : Nat) (a : Act) (w : World), Code.rounds P x Q k a w → Code.rounds P x Q' k a w := by
    intro Q Q' h k
    induction k with
    | zero => intro a w hh; exact hh
    | succ k ih =>
      intro a w hh
      rw [rounds_succ] at hh ⊢
      refine wp_mono hh ?_
      intro e a w hq
      cases e <;> first | exact ih _ _ hq | exact h _ _ _ hq
  induction k with
  | zero => intro fr st ρ a w hb; exact absurd rfl hb
  | succ k ih =>
    intro fr st ρ a w hb hw hf hn hd
    have e : loopC f (k + 1) fr st = thenC (f fr st) (loopC f k) := rfl
    rw [e] at hb ⊢
    rw [rounds_succ]
    cases hr : f fr st with
    | bad => rw [hr] at hb; exact absurd rfl hb
    | norm fr1 st1 =>
      have h1 := hx fr st ρ a w (by rw [hr]; simp) hw hf hn hd
      rw [hr] at h1 hb
      refine wp_mono h1 ?_
      rintro e a1 w1 ⟨rfl, ρ1, hp⟩
      exact mono (fun e a w h => Post.step hp.after h) k a1 w1 (ih fr1 st1 ρ1 a1 w1 hb hp.after.wr hp.fr hp.sz hp.defers)
    | exit id fr1 st1 =>
      have h1 := hx fr st ρ a w (by rw [hr]; simp) hw hf hn hd
      rw [hr] at h1
      refine wp_mono h1 ?_
      rintro e a1 w1 ⟨rfl, hp⟩
      exact ⟨rfl, hp⟩
    | ret fr1 st1 =>
      have h1 := hx fr st ρ a w (by rw [hr]; simp) hw hf hn hd
      rw [hr] at h1
      refine wp_mono h1 ?_
      rintro e a1 w1 ⟨rfl, hp⟩
      exact ⟨rfl, hp⟩

theorem exec_ok (hc : CallSound P call) (hdr : DrawSound P dr) (c : Code) : Ok P n c (exec P call dr n c) := by
  induction c with
  | skip => intro fr st ρ a w _ hw hf hn hd; exact wp_skip ⟨rfl, ρ, hf, hn, hd, After.refl hw⟩
  | region id ops draw =>
    intro fr st ρ a w hb hw hf hn hd
    cases draw with
    | true => exact hdr call n hc id ops fr st ρ a w hb hw hf hn hd
    | false => exact wp_region_list (runOps_sound hc ops.toList fr st ρ a w hb hw hf hn hd)
  | seq x y hx hy => exact thenC_ok hx hy
  | cond c x y hx hy =>
    intro fr st ρ a w hb hw hf hn hd
    have e : exec P call dr n (.cond c x y) fr st = condC c (exec P call dr n x) (exec P call dr n y) fr st := rfl
    rw [e] at hb ⊢
    unfold condC at hb ⊢
    cases hcc : cArg c with
    | none => rw [hcc] at hb; exact absurd rfl hb
    | some c' =>
      rw [hcc] at hb
      have hev := ev_sound hcc hf
      dsimp only at hb ⊢
      generalize hx' : ev fr c' = cv at hb hev ⊢
      cases cv with
      | bool t =>
        generalize hv' : a.eval c = cv' at hev
        cases hev
        cases t with
        | true => exact wp_cond_true hv' (hx fr st ρ a w hb hw hf hn hd)
        | false => exact wp_cond_false hv' (hy fr st ρ a w hb hw hf hn hd)
      | _ => exact absurd rfl hb
  | block id x hx => exact inBlockC_ok hx
  | loop x hx => intro fr st ρ a w hb hw hf hn hd; exact wp_loop_rounds 1000000 (loopC_rounds hx 1000000 fr st ρ a w hb hw hf hn hd)
  | rangeFunc f ps x y hx hy => intro fr st ρ a w hb; exact absurd rfl hb
  | exit id => intro fr st ρ a w _ hw hf hn hd; exact wp_exit ⟨rfl, ρ, hf, hn, hd, After.refl hw⟩
  | scope x hx =>
    intro fr st ρ a w hb hw hf hn hd
    refine wp_scope_straight (wp_mono (hx fr st ρ a w hb hw hf hn hd) ?_)
    intro e a1 w1 h
    have e0 : exec P call dr n (.scope x) fr st = exec P call dr n x fr st := rfl
    rw [e0]
    cases e with
    | goto l =>
      unfold Post at h
      split at h
      · exact absurd h.1 (by simp)
      · exact absurd h.1 (by simp)
      · exact absurd h.1 (by simp)
      · exact h.elim
    | _ => exact h
  | label l => intro fr st ρ a w _ hw hf hn hd; exact wp_label ⟨rfl, ρ, hf, hn, hd, After.refl hw⟩
  | goto l => intro fr st ρ a w hb; exact absurd rfl hb
  | ret => intro fr st ρ a w _ hw hf hn hd; exact wp_ret ⟨rfl, ρ, hf, hn, hd, After.refl hw⟩
  | refuse y => intro fr st ρ a w hb; exact absurd rfl hb
end

/- frames -/
noncomputable def frameFrom (args : List CV) : Bp → Fr → Fr :=
  List.rec (motive := fun _ => Bp → Fr → Fr) (fun _ fr => fr) (fun v _ ih p fr => forceV v fun v => PT.force (fr.put p (some v)) fun fr => forceB p.succ fun p => ih p fr) args
noncomputable def frameOf (args : List CV) : Fr := frameFrom args .e .nil
theorem frameFrom_cons (v : CV) (l : List CV) (p : Bp) (fr : Fr) : frameFrom (v :: l) p fr = frameFrom l p.succ (fr.put p (some v)) := by
  have e : frameFrom (v :: l) p fr = forceV v fun v => PT.force (fr.put p (some v)) fun fr => forceB p.succ fun p => frameFrom l p fr := rfl
  rw [e, forceV_eq, PT.force_eq, forceB_eq]
theorem fget_frameFrom : ∀ (l : List CV) (p : Bp) (fr : Fr) (q : Bp), fget (frameFrom l p fr) q = if p.dec ≤ q.dec ∧ q.dec < p.dec + l.length then l.getD (q.dec - p.dec) .undef else fget fr q := by
  intro l
  induction l with
  | nil => intro p fr q; rw [if_neg (by simp)]; rfl
  | cons v l ih =>
    intro p fr q
    rw [frameFrom_cons, ih, Bp.dec_succ]
    by_cases h1 : q.dec = p.dec
    · have := Bp.dec_inj _ _ h1; subst this
      rw [if_neg (by omega), fget_put_same, if_pos (by simp)]
      simp
    · rw [fget_put_ne _ _ _ _ (fun e => h1 (by rw [e]))]
      by_cases h2 : p.dec + 1 ≤ q.dec ∧ q.dec < p.dec + 1 + l.length
      · rw [if_pos h2, if_pos (by simp only [List.length_cons]; omega)]
        have : q.dec - p.dec = (q.dec - (p.dec + 1)) + 1 := by omega
        rw [this]; simp
      · rw [if_neg h2, if_neg (by simp only [List.length_cons]; omega)]
theorem frameOf_FR {ρ : Ren} {args : List CV} {args' : Array Value} (h : VRs ρ args args'.toList) (k : Nat) : FR ρ (frameOf args) (args' ++ Array.replicate k undef) := by
  intro t
  have hlen : args.length = args'.size := by rw [h.len]; simp
  unfold frameOf
  rw [fget_frameFrom, Bp.dec_enc]
  have e0 : Bp.e.dec = 0 := rfl
  rw [e0]
  by_cases ht : t < args.length
  · rw [if_pos (by omega)]
    have h1 : args[t]? = some args[t] := by simp [ht]
    have h2 : args'.toList[t]? = some (args'[t]'(by omega)) := by simp
    have h3 := h.at' t _ _ h1 h2
    have h4 : (args' ++ Array.replicate k undef).getD t Go.undef = args'[t]'(by omega) := by
      simp [Array.getElem?_append, show t < args'.size by omega]
    rw [h4]
    simpa [ht] using h3
  · rw [if_neg (by omega)]
    have h4 : (args' ++ Array.replicate k undef).getD t Go.undef = Go.undef := by
      simp only [Array.getD_eq_getD_getElem?, Array.getElem?_append, if_neg (show ¬ t < args'.size by omega), Array.getElem?_replicate]
      split <;> rfl
    rw [h4]
    exact .undef

/- results -/
noncomputable def resC1 (P : Program) (fr : Fr) (st : St) (r : ResultVar) : Option CV :=
  match r with
  | .tmp t => some (fget fr (Bp.enc t))
  | .cell a t => (match undT P t, infoT P t with
    | some u, some i => (match bsel (aggOf u) (pLoadN i.size (fget fr (Bp.enc a)) st) (pLoad1 (fget fr (Bp.enc a)) st) with | .ok v _ => some v | .bad => none)
    | _, _ => none)
noncomputable def resL (P : Program) (fr : Fr) (st : St) (l : List ResultVar) : Option (List CV) :=
  List.rec (some []) (fun r _ ih => match resC1 P fr st r, ih with | some v, some l => some (v :: l) | _, _ => none) l
noncomputable def resC (P : Program) (fr : Fr) (st : St) (l : List ResultVar) : OR :=
  match resL P fr st l with
  | some [] => .ok .undef st
  | some [v] => .ok v st
  | some l => (listS l).force fun s => .ok (.tuple s) st
  | none => .bad
noncomputable def callableT (P : Program) (f : Nat) : Bool := match funcT P f with | some fn => Bool.and fn.body.isSome (!(fn.name == "runtime.NumGoroutine")) | none => false
theorem callableT_eq {P : Program} {f : Nat} (h : callableT P f = true) : callable P f = true := by
  unfold callableT at h
  rw [funcT_eq] at h
  unfold callable
  split at h
  · rename_i fn hfn; rw [hfn]; simp only [Bool.and_eq_true] at h ⊢; exact ⟨h.2, h.1⟩
  · cases h
/-- A call: the frame, the code, the results. -/
noncomputable def enterC (P : Program) (dr : DrawF) (call : CallF) (f : Nat) (args : List CV) (st : St) : OR :=
  bsel (callableT P f) (match funcT P f with
    | some fn => (match fn.body with
      | some c => Rs.rec (fun fr st => resC P fr st fn.results.toList) (fun _ _ _ => .bad) (fun fr st => resC P fr st fn.results.toList) .bad (exec P call dr fn.ntmps c (frameOf args) st)
      | none => .bad)
    | none => .bad) .bad

section
variable {P : Program} {call : CallF} {dr : DrawF} {ρ : Ren} {st st' : St} {w : World} {fr : Fr} {a : Act} {v : CV}
theorem load1_var {t : TypeId} {p : CV} {p' : Value} (h : pLoad1 p st = .ok v st') (hw : WR ρ st w) (hp : VR ρ p p') (ht : (isAgg t).run P w = .ok false w) :
    ∃ v', (do loadVar t (← asAddr p') : Sem Value).run P w = .ok v' w ∧ VR ρ v v' := by
  unfold pLoad1 at h
  split at h
  · rename_i b off
    split at h
    · rename_i s t' g hm
      cases hx : s.get byteV off with
      | none => rw [hx] at h; cases h
      | some x =>
        rw [hx] at h; cases h
        cases hp with
        | ptr _ _ r sz hr =>
          obtain ⟨c, lo, hi, e1, e2, e3, e4, e5⟩ := hw.row hm hr
          obtain ⟨x', g1, g2⟩ := row_get e4 hx
          refine ⟨_, ?_, g2⟩
          simp [asAddr, loadVar, ht, run_load_row P w r off c t' (lo, hi) x' e1 (take_get g1), -run_load]
    · cases h
  · cases h
theorem loadN_var {t : TypeId} {n : Nat} {p : CV} {p' : Value} (h : pLoadN n p st = .ok v st') (hw : WR ρ st w) (hp : VR ρ p p') (ht : (isAgg t).run P w = .ok true w)
    (hn : (Go.sizeOf t).run P w = .ok n w) : ∃ v', (do loadVar t (← asAddr p') : Sem Value).run P w = .ok v' w ∧ VR ρ v v' := by
  unfold pLoadN at h
  split at h
  · rename_i b off
    split at h
    · rename_i s t' g hm
      cases hx : s.extract off n with
      | none => rw [hx] at h; cases h
      | some x =>
        rw [hx] at h; cases h
        cases hp with
        | ptr _ _ r sz hr =>
          obtain ⟨c, lo, hi, e1, e2, e3, e4, e5⟩ := hw.row hm hr
          obtain ⟨g1, g2⟩ := Segs.extract_some hx
          refine ⟨.agg ((c.toList.drop off).take n).toArray, ?_, (VR.agg' ?_)⟩
          · simp [asAddr, loadVar, ht, hn, run_loadCells_row P w r off n c t' (lo, hi) e1 (by omega)]
          · have := g2 byteV
            rw [show row x = ((row s).drop off).take n from this]
            have e : (c.toList.drop off).take n = ((c.toList.take s.size).drop off).take n := by
              rw [List.drop_take, List.take_take, Nat.min_eq_left (by omega)]
            rw [e]; exact (e4.drop off).take n
    · cases h
  · cases h
def resSem (a : Act) (r : ResultVar) : Sem Value := match r with | .tmp t => pure (a.tmps.getD t undef) | .cell ad t => do loadVar t (← asAddr (a.tmps.getD ad undef))
theorem resC1_sound {r : ResultVar} {v : CV} (h : resC1 P fr st r = some v) (hw : WR ρ st w) (hf : FR ρ fr a.tmps) :
    ∃ v', (resSem a r).run P w = .ok v' w ∧ VR ρ v v' := by
  unfold resC1 at h
  split at h
  · rename_i t; cases h; exact ⟨_, rfl, hf t⟩
  · rename_i ad t
    rw [undT_eq, infoT_eq] at h
    split at h
    · rename_i u i hu hi
      have hp := hf ad
      rw [bsel_eq] at h
      by_cases ha : aggOf u = true
      · rw [if_pos ha] at h
        split at h
        · rename_i v1 st1 hh
          cases h
          exact loadN_var (t := t) hh hw hp (by rw [isAgg_run hu, ha]) (sizeOf_run hi)
        · cases h
      · rw [if_neg ha] at h
        split at h
        · rename_i v1 st1 hh
          cases h
          exact load1_var (t := t) hh hw hp (by rw [isAgg_run hu, show aggOf u = false by simpa using ha])
        · cases h
    · cases h
theorem resL_sound : ∀ {l : List ResultVar} {vs : List CV}, resL P fr st l = some vs → WR ρ st w → FR ρ fr a.tmps → ∃ vs', (l.mapM (resSem a)).run P w = .ok vs' w ∧ VRs ρ vs vs' := by
  intro l
  induction l with
  | nil => intro vs h _ _; cases h; exact ⟨[], rfl, VRs.nil ρ⟩
  | cons r l ih =>
    intro vs h hw hf
    have e : resL P fr st (r :: l) = (match resC1 P fr st r, resL P fr st l with | some v, some l => some (v :: l) | _, _ => none) := rfl
    rw [e] at h
    split at h
    · rename_i v l1 h1 h2
      cases h
      obtain ⟨v', g1, g2⟩ := resC1_sound h1 hw hf
      obtain ⟨vs', g3, g4⟩ := ih h2 hw hf
      exact ⟨v' :: vs', by simp [List.mapM_cons, g1, g3], VRs.cons g2 g4⟩
    · cases h
theorem resC_sound {fn : Func} (h : resC P fr st fn.results.toList = .ok v st') (hw : WR ρ st w) (hf : FR ρ fr a.tmps) : st' = st ∧ ∃ v', (results fn a.tmps).run P w = .ok v' w ∧ VR ρ v v' := by
  unfold resC at h
  have e : ∀ {vs'}, (fn.results.toList.mapM (resSem a)).run P w = .ok vs' w → (results fn a.tmps).run P w = .ok (if h : vs'.toArray.size = 1 then vs'.toArray[0] else .tuple vs'.toArray) w := by
    intro vs' hv
    have e1 : results fn a.tmps = (do let vs ← fn.results.mapM (resSem a); pure (if h : vs.size = 1 then vs[0] else .tuple vs)) := rfl
    rw [e1, Array.mapM_eq_mapM_toList]
    simp [hv]
  split at h
  · rename_i hl
    cases h
    obtain ⟨vs', g1, g2⟩ := resL_sound hl hw hf
    have : vs' = [] := by have := g2.len; simpa using this.symm
    subst this
    exact ⟨rfl, _, e g1, by simpa using VR.undef⟩
  · rename_i u hl
    cases h
    obtain ⟨vs', g1, g2⟩ := resL_sound hl hw hf
    obtain ⟨u', t', rfl, g3, g4⟩ := g2.inv
    have : t' = [] := by have := g4.len; simpa using this.symm
    subst this
    exact ⟨rfl, _, e g1, by simpa using g3⟩
  · rename_i l h0 h1 hl
    rw [Segs.force_eq] at h
    cases h
    obtain ⟨vs', g1, g2⟩ := resL_sound hl hw hf
    refine ⟨rfl, _, e g1, ?_⟩
    have hlen : vs'.toArray.size ≠ 1 := by
      intro hh
      have := g2.len
      simp only [List.size_toArray] at hh
      rw [hh] at this
      obtain ⟨x, rfl⟩ := List.length_eq_one_iff.1 this
      exact h1 x rfl
    rw [dif_neg hlen]
    exact VR.tuple _ _ (by rw [row_listS]; exact g2.len) (by rw [row_listS]; exact g2.at')
  · cases h

theorem enterC_sound (hc : CallSound P call) (hdr : DrawSound P dr) {f : Nat} {args : List CV} (h : enterC P dr call f args st = .ok v st') : callable P f = true ∧ CallOK P f args st v st' := by
  unfold enterC at h
  rw [bsel_eq] at h
  split at h
  · rename_i hcall
    refine ⟨callableT_eq hcall, ?_⟩
    rw [funcT_eq] at h
    split at h
    · rename_i fn hfn
      split at h
      · rename_i c hb
        intro ρ w args' hw ha
        refine calls_of_wp hfn hb ?_
        have hok := exec_ok (n := fn.ntmps) hc hdr c (frameOf args) st ρ { tmps := args' ++ Array.replicate (fn.ntmps - args'.size) undef, defers := [] } w
        generalize exec P call dr fn.ntmps c (frameOf args) st = r at h hok
        have hok := hok (by intro e; subst e; cases h) hw (frameOf_FR ha _) (by simp; omega) rfl
        cases r with
        | norm fr1 st1 =>
          refine wp_mono hok ?_
          rintro e a1 w1 ⟨rfl, ρ1, hp⟩
          obtain ⟨rfl, v', g1, g2⟩ := resC_sound h hp.after.wr hp.fr
          exact ⟨hp.defers, v', g1, v', ρ1, rfl, g2, hp.after⟩
        | ret fr1 st1 =>
          refine wp_mono hok ?_
          rintro e a1 w1 ⟨rfl, ρ1, hp⟩
          obtain ⟨rfl, v', g1, g2⟩ := resC_sound h hp.after.wr hp.fr
          exact ⟨hp.defers, v', g1, v', ρ1, rfl, g2, hp.after⟩
        | exit id fr1 st1 => cases h
        | bad => cases h
      · cases h
    · cases h
  · cases h
end

/- calls, so deep -/
abbrev IntrF := Nat → List CV → St → Option OR
def IntrSound (P : Program) (I : IntrF) : Prop := ∀ f args st v st', I f args st = some (.ok v st') → CallOut P f args st v st'
noncomputable def runF (P : Program) (dr : DrawF) (I : IntrF) (fuel : Nat) : CallF :=
  Nat.rec (motive := fun _ => CallF) (fun _ _ _ => .bad) (fun _ ih f args st => Option.rec (enterC P dr ih f args st) (fun r => r) (I f args st)) fuel
theorem runF_sound {P : Program} {dr : DrawF} {I : IntrF} (hdr : DrawSound P dr) (hI : IntrSound P I) : ∀ fuel, CallSound P (runF P dr I fuel) := by
  intro fuel
  induction fuel with
  | zero => intro f args st v st' h; cases h
  | succ fuel ih =>
    intro f args st v st' h
    have e : runF P dr I (fuel + 1) f args st = Option.rec (enterC P dr (runF P dr I fuel) f args st) (fun r => r) (I f args st) := rfl
    rw [e] at h
    cases hI' : I f args st with
    | none => rw [hI'] at h; exact .inl (enterC_sound ih hdr h)
    | some r => rw [hI'] at h; exact hI f args st v st' (by rw [hI']; exact congrArg some h)
end Sim
