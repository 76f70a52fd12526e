import Derived.Test.YtfojoloiahhphaaGreatDoorSimPend
/- Sim, part 23: regions that draw their order: the run, and the checks. -/
namespace Sim
open Go

noncomputable def anyL {α : Type} (l : List α) (p : α → Bool) : Bool := List.rec false (fun x _ r => Bool.or (p x) r) l
noncomputable def allL {α : Type} (l : List α) (p : α → Bool) : Bool := List.rec true (fun x _ r => Bool.and (p x) r) l
theorem anyL_iff {α : Type} {l : List α} {p : α → Bool} : anyL l p = true ↔ ∃ x ∈ l, p x = true := by
  induction l with
  | nil => simp [anyL]
  | cons x l ih =>
    have e : anyL (x :: l) p = Bool.or (p x) (anyL l p) := rfl
    rw [e]
    simp only [Bool.or_eq_true, ih, List.mem_cons, exists_eq_or_imp]
theorem allL_iff {α : Type} {l : List α} {p : α → Bool} : allL l p = true ↔ ∀ x ∈ l, p x = true := by
  induction l with
  | nil => simp [allL]
  | cons x l ih =>
    have e : allL (x :: l) p = Bool.and (p x) (allL l p) := rfl
    rw [e]
    simp only [Bool.and_eq_true, ih, List.mem_cons, forall_eq_or_imp]
/-- the list, each with its place. -/
noncomputable def idxL {α : Type} (l : List α) : Nat → List (Nat × α) := List.rec (motive := fun _ => Nat → List (Nat × α)) (fun _ => []) (fun x _ ih i => (i, x) :: ih (Nat.succ i)) l
theorem idxL_mem {α : Type} : ∀ {l : List α} {i : Nat} {k : Nat} {x : α}, l[k]? = some x → (i + k, x) ∈ idxL l i := by
  intro l
  induction l with
  | nil => intro i k x h; simp at h
  | cons y l ih =>
    intro i k x h
    have e : idxL (y :: l) i = (i, y) :: idxL l (i + 1) := rfl
    rw [e]
    cases k with
    | zero => simp at h; subst h; simp
    | succ k =>
      simp at h
      have := ih (i := i + 1) h
      rw [show i + (k + 1) = i + 1 + k by omega]
      exact List.mem_cons_of_mem _ this

noncomputable def looksL (P : Program) (ops : Array Oper) (o : Oper) : List CArg :=
  (match compOpT P o.op with | some op => op.args | none => []) ++
  (match o.guard with | some (g, _) => (match (ops[g]?).bind (·.dst) with | some d => [CArg.tmp (Bp.enc d)] | none => []) | none => [])
noncomputable def isAnc (ops : Array Oper) (f : Nat) : Nat → Nat → Bool :=
  Nat.rec (motive := fun _ => Nat → Nat → Bool) (fun _ _ => false) (fun _ ih i j => match ops[i]? with
    | none => false
    | some o => anyL o.after.toList fun e => Bool.and (Region.binds .any e) (forceN e.on fun k => Bool.or (Nat.beq k j) (ih k j))) f

section
variable {P : Program} {call : CallF} {ops : Array Oper}
theorem stepC_congr {o : Oper} {fr fr' : Fr} {st : St} (h : ∀ x ∈ looksL P ops o, ev fr x = ev fr' x) : stepC P call ops o fr st = stepC P call ops o fr' st := by
  have hw : wantedC ops fr o = wantedC ops fr' o := by
    rw [wantedC_eq, wantedC_eq]
    unfold looksL at h
    cases hg : o.guard with
    | none => rfl
    | some gb =>
      obtain ⟨g, b⟩ := gb
      dsimp only
      rw [hg] at h
      dsimp only at h
      cases hd : (ops[g]?).bind (·.dst) with
      | none => rfl
      | some d =>
        rw [hd] at h
        have h1 : fget fr (Bp.enc d) = fget fr' (Bp.enc d) := h (.tmp (Bp.enc d)) (by simp)
        dsimp only
        rw [h1]
  rw [stepC_eq, stepC_eq, hw]
  split
  · cases ho : compOpT P o.op with
    | none => rfl
    | some op =>
      dsimp only
      refine runOp_congr fun x hx => h x ?_
      unfold looksL
      rw [ho]
      simp [hx]
  · rfl
  · rfl
theorem stepD_congr {ab : Option Bp} {o : Oper} {fr fr' : Fr} {st : St} (h : ∀ x ∈ looksL P ops o, ev fr x = ev fr' x) : stepD P call ops ab o fr st = stepD P call ops ab o fr' st := by
  have hw : wantedC ops fr o = wantedC ops fr' o := wantedC_congr fun g b d hg hd =>
    h (.tmp (Bp.enc d)) (by unfold looksL; rw [hg]; dsimp only; rw [hd]; simp)
  unfold stepD
  rw [stepC_congr h, hw]
  cases newF P o with
  | some tz => cases ab <;> rfl
  | none =>
    cases ab with
    | none => rfl
    | some b =>
      dsimp only
      cases hl : lateF P o with
      | none => rfl
      | some x =>
        obtain ⟨e, len, z, ps⟩ := x
        dsimp only
        have hc := lateF_comp hl
        rw [evP_congr (fr := fr) (fr' := fr')]
        intro y hy
        refine h y ?_
        unfold looksL
        rw [hc]
        exact List.mem_append_left _ hy
theorem isB_none {o : Oper} (h : isB P o = false) : lateF P o = none := by
  unfold isB at h
  cases hl : lateF P o with
  | none => rfl
  | some x => rw [hl] at h; cases h
theorem isB_some {o : Oper} (h : isB P o = true) : ∃ x, lateF P o = some x := by
  unfold isB at h
  cases hl : lateF P o with
  | none => rw [hl] at h; cases h
  | some x => exact ⟨x, rfl⟩
theorem isB_new {o : Oper} (h : isB P o = true) : newF P o = none := by
  obtain ⟨x, hx⟩ := isB_some h
  cases hn : newF P o with
  | none => rfl
  | some tz => have := newF_late (P := P) (o := o) (by rw [hn]; simp); rw [hx] at this; cases this
theorem isB_isW {o : Oper} (h : isB P o = true) : isW P o = false := by
  obtain ⟨x, hx⟩ := isB_some h
  unfold isW
  rw [isB_new h, hx]
theorem isW_parts {o : Oper} (h : isW P o = true) : newF P o = none ∧ lateF P o = none := by
  unfold isW at h
  cases hn : newF P o with
  | some tz => rw [hn] at h; cases h
  | none =>
    rw [hn] at h
    cases hl : lateF P o with
    | some x => rw [hl] at h; cases h
    | none => exact ⟨rfl, rfl⟩
theorem stepD_still {ab : Option Bp} {o : Oper} {fr : Fr} {st st' : St} {v : CV} (hw : isW P o = false) (hb : isB P o = false) (h : stepD P call ops ab o fr st = .ok v st') : st' = st := by
  have hl := isB_none hb
  unfold stepD at h
  unfold isW at hw
  rw [hl] at hw h
  split at h
  · rename_i hn
    rw [hn] at hw
    dsimp only at hw
    rw [stepC_eq] at h
    split at h
    · split at h
      · rename_i op hop
        rw [hop] at hw
        exact (runOp_still (by simpa using hw)).eq _ _ h
      · cases h
    · cases h; rfl
    · cases h
  · split at h
    · unfold pNewAt at h
      rw [onBlk_eq] at h
      split at h
      · rw [bsel_eq] at h; split at h
        · cases h; rfl
        · cases h
      · cases h
    · cases h; rfl
    · cases h
  · cases h
  · cases h

def Lst (listed : Array Bool) (i : Nat) : Prop := listed.getD i false = true
def Deps (ops : Array Oper) (listed : Array Bool) (i : Nat) : Prop := ∀ o, ops[i]? = some o → ∀ e ∈ o.after, Region.binds .any e = true → Lst listed e.on
theorem anc_listed {listed : Array Bool} (hcl : ∀ i, Lst listed i → Deps ops listed i) : ∀ (f i j : Nat), isAnc ops f i j = true → Deps ops listed i → Lst listed j := by
  intro f
  induction f with
  | zero => intro i j h; cases h
  | succ f ih =>
    intro i j h hd
    have e : isAnc ops (f + 1) i j = (match ops[i]? with
      | none => false
      | some o => anyL o.after.toList fun e => Bool.and (Region.binds .any e) (forceN e.on fun k => Bool.or (Nat.beq k j) (isAnc ops f k j))) := rfl
    rw [e] at h
    split at h
    · cases h
    · rename_i o ho
      rw [anyL_iff] at h
      obtain ⟨x, hx, h⟩ := h
      simp only [forceN_eq, Bool.and_eq_true, Bool.or_eq_true, Nat.beq_eq] at h
      have hl := hd o ho x (by simpa using hx) h.1
      rcases h.2 with h2 | h2
      · rw [← h2]; exact hl
      · exact ih _ _ h2 (hcl _ hl)
end

/-- What was done at a place: its writers ahead, its frame, its value; the memory ahead and behind. -/
structure TR where
  i : Nat
  ab : Option Bp
  o : Oper
  w : Bool
  c : Nat
  fr : Fr
  v : CV
  s : St
  s1 : St
noncomputable def putC (n : Nat) (dst : Option Tmp) (v : CV) (fr : Fr) : Option Fr :=
  match dst with
  | none => some fr
  | some d => bsel (Nat.ble (Nat.succ d) n) (PT.force (fr.put (Bp.enc d) (some v)) some) none
theorem putC_some {n : Nat} {dst : Option Tmp} {v : CV} {fr fr' : Fr} (h : putC n dst v fr = some fr') : (dst = none ∧ fr' = fr) ∨ ∃ d, dst = some d ∧ d < n ∧ fr' = fr.put (Bp.enc d) (some v) := by
  unfold putC at h
  split at h
  · cases h; exact .inl ⟨rfl, rfl⟩
  · rename_i d
    simp only [bsel_eq, Nat.ble_eq, Nat.succ_le_iff, PT.force_eq] at h
    split at h
    · rename_i hd; cases h; exact .inr ⟨d, rfl, hd, rfl⟩
    · cases h
abbrev TRes := List TR × List St × Fr × St
noncomputable def trace (P : Program) (call : CallF) (n : Nat) (ops : Array Oper) (l : List (Oper × Option Bp)) : Nat → Nat → Fr → St → Option TRes :=
  List.rec (motive := fun _ => Nat → Nat → Fr → St → Option TRes) (fun _ _ fr st => some ([], [], fr, st)) (fun o _ ih i c fr st =>
    OR.rec (fun v st' => forceV v fun v => forceS st' fun st' =>
      Option.rec none (fun fr' => bsel (isW P o.1)
        (Option.rec none (fun r => some (⟨i, o.2, o.1, true, c, fr, v, st, st'⟩ :: r.1, st :: r.2.1, r.2.2)) (ih (Nat.succ i) (Nat.succ c) fr' st'))
        (Option.rec none (fun r => some (⟨i, o.2, o.1, false, c, fr, v, st, st'⟩ :: r.1, r.2.1, r.2.2)) (ih (Nat.succ i) c fr' st'))) (putC n o.1.dst v fr)) none (stepD P call ops o.2 o.1 fr st)) l
/-- The memory ahead of a place. -/
def preS (trs : List TR) (stf : St) (k : Nat) : St := match trs[k]? with | some t => t.s | none => stf

def FrP (l : List Oper) (trs : List TR) (L : Nat → Prop) (fr0 f : Fr) : Prop :=
  (∀ j o d t, L j → l[j]? = some o → o.dst = some d → trs[j]? = some t → fget f (Bp.enc d) = t.v) ∧
  (∀ p, (∀ j o d, L j → l[j]? = some o → o.dst = some d → Bp.enc d ≠ p) → fget f p = fget fr0 p)
def Apart (l : List Oper) : Prop := ∀ (j k : Nat) (a b : Oper) (d : Tmp), j < k → l[j]? = some a → l[k]? = some b → a.dst = some d → b.dst ≠ some d
noncomputable def cnt (P : Program) (l : List Oper) (k : Nat) : Nat := (l.take k).countP (isW P)

section
variable {P : Program} {call : CallF} {n : Nat} {ops : Array Oper}
theorem cnt_succ {l : List Oper} {k : Nat} {o : Oper} (h : l[k]? = some o) : cnt P l (k + 1) = cnt P l k + (if isW P o then 1 else 0) := by
  unfold cnt
  rw [List.take_add_one, h]
  simp [List.countP_append, List.countP_cons]
theorem cnt_cons {l : List Oper} {k : Nat} {o : Oper} : cnt P (o :: l) (k + 1) = (if isW P o then 1 else 0) + cnt P l k := by
  unfold cnt
  rw [List.take_succ_cons, List.countP_cons]
  omega
theorem cnt_mono {l : List Oper} {j k : Nat} (h : j ≤ k) : cnt P l j ≤ cnt P l k := by
  unfold cnt
  have : l.take j = (l.take k).take j := by rw [List.take_take, Nat.min_eq_left h]
  rw [this]
  exact (List.take_sublist _ _).countP_le
/-- each number below is some writer's. -/
theorem cnt_onto {l : List Oper} : ∀ (k : Nat), k ≤ l.length → ∀ c, c < cnt P l k → ∃ j o, j < k ∧ l[j]? = some o ∧ isW P o = true ∧ cnt P l j = c := by
  intro k
  induction k with
  | zero => intro _ c h; simp [cnt] at h
  | succ k ih =>
    intro hk c h
    have hlk : l[k]? = some l[k] := by simp
    rw [cnt_succ hlk] at h
    by_cases hc : c < cnt P l k
    · obtain ⟨j, o, h1, h2, h3, h4⟩ := ih (by omega) c hc
      exact ⟨j, o, by omega, h2, h3, h4⟩
    · have hw : isW P l[k] = true := by
        cases hh : isW P l[k] with
        | true => rfl
        | false => rw [hh] at h; simp at h; omega
      rw [hw] at h
      simp only [if_true] at h
      exact ⟨k, _, by omega, hlk, hw, by omega⟩

structure TrOK (L : List (Oper × Option Bp)) (P : Program) (call : CallF) (n : Nat) (ops : Array Oper) (i c : Nat) (fr : Fr) (st : St) (trs : List TR) (ch : List St) (frf : Fr) (stf : St) : Prop where
  len : trs.length = L.length
  at' : ∀ k o ab, L[k]? = some (o, ab) → ∃ t, trs[k]? = some t ∧ t.i = i + k ∧ t.ab = ab ∧ t.o = o ∧ t.w = isW P o ∧ t.c = c + cnt P (L.map (·.1)) k ∧ (∀ d, o.dst = some d → d < n) ∧ FrP (L.map (·.1)) trs (· < k) fr t.fr ∧
    stepD P call ops ab o t.fr t.s = .ok t.v t.s1 ∧ (isW P o = true → ch[cnt P (L.map (·.1)) k]? = some t.s)
  fst : preS trs stf 0 = st
  nxt : ∀ k t, trs[k]? = some t → t.s1 = preS trs stf (k + 1)
  fin : FrP (L.map (·.1)) trs (· < L.length) fr frf
  chl : ch.length = cnt P (L.map (·.1)) L.length

theorem FrP.cons {l : List Oper} {trs : List TR} {k : Nat} {o : Oper} {t0 : TR} {fr0 fr1 f : Fr} (hap : Apart (o :: l)) (h : FrP l trs (· < k) fr1 f) (hput : (o.dst = none ∧ fr1 = fr0) ∨ ∃ d, o.dst = some d ∧ d < n ∧ fr1 = fr0.put (Bp.enc d) (some t0.v)) :
    FrP (o :: l) (t0 :: trs) (· < k + 1) fr0 f := by
  constructor
  · intro j oj d t hj h1 h2 h3
    cases j with
    | zero =>
      simp at h1 h3; subst h1; subst h3
      rcases hput with ⟨e, _⟩ | ⟨d', e, _, rfl⟩
      · rw [h2] at e; cases e
      · rw [h2] at e; cases e
        rw [h.2 (Bp.enc d), fget_put_same]
        intro j oj d' hj h4 h5 e
        have := Bp.enc_inj e; subst this
        exact hap 0 (j + 1) o oj d' (by omega) (by simp) (by simpa using h4) h2 h5
    | succ j => exact h.1 j oj d t (by have : j + 1 < k + 1 := hj; show j < k; omega) (by simpa using h1) h2 (by simpa using h3)
  · intro p hp
    rw [h.2 p fun j oj d hj h1 h2 => hp (j + 1) oj d (by have : j < k := hj; show j + 1 < k + 1; omega) (by simpa using h1) h2]
    rcases hput with ⟨_, rfl⟩ | ⟨d, e, _, rfl⟩
    · rfl
    · rw [fget_put_ne]
      exact fun e' => hp 0 o d (by show 0 < k + 1; omega) (by simp) e e'.symm

theorem trace_ok : ∀ {L : List (Oper × Option Bp)} {i c : Nat} {fr : Fr} {st : St} {trs : List TR} {ch : List St} {frf : Fr} {stf : St}, trace P call n ops L i c fr st = some (trs, ch, frf, stf) → Apart (L.map (·.1)) → TrOK L P call n ops i c fr st trs ch frf stf := by
  intro L
  induction L with
  | nil =>
    intro i c fr st trs ch frf stf h _
    cases h
    exact ⟨rfl, fun k o ab h => by simp at h, rfl, fun k t h => by simp at h, ⟨fun j o d t _ h => by simp at h, fun p _ => rfl⟩, rfl⟩
  | cons oa L ih =>
    obtain ⟨o, ab⟩ := oa
    intro i c fr st trs ch frf stf h hap
    rw [List.map_cons] at hap
    have e : trace P call n ops ((o, ab) :: L) i c fr st = OR.rec (motive := fun _ => Option TRes) (fun v st' => forceV v fun v => forceS st' fun st' =>
      Option.rec none (fun fr' => bsel (isW P o)
        (Option.rec none (fun r => some (⟨i, ab, o, true, c, fr, v, st, st'⟩ :: r.1, st :: r.2.1, r.2.2)) (trace P call n ops L (i + 1) (c + 1) fr' st'))
        (Option.rec none (fun r => some (⟨i, ab, o, false, c, fr, v, st, st'⟩ :: r.1, r.2.1, r.2.2)) (trace P call n ops L (i + 1) c fr' st'))) (putC n o.dst v fr)) none (stepD P call ops ab o fr st) := rfl
    rw [e] at h
    have hap' : Apart (L.map (·.1)) := fun j k a b d hjk h1 h2 => hap (j + 1) (k + 1) a b d (by omega) (by simpa using h1) (by simpa using h2)
    cases hs : stepD P call ops ab o fr st with
    | bad => rw [hs] at h; cases h
    | ok v st1 =>
      rw [hs] at h
      simp only [forceV_eq, forceS_eq] at h
      cases hp : putC n o.dst v fr with
      | none => rw [hp] at h; cases h
      | some fr1 =>
        rw [hp] at h
        simp only [bsel_eq] at h
        have hput := putC_some hp
        have hdn : ∀ d, o.dst = some d → d < n := fun d hd => by
          rcases hput with ⟨e, _⟩ | ⟨d', e, h', _⟩
          · rw [hd] at e; cases e
          · rw [hd] at e; cases e; exact h'
        -- what comes behind
        have key : ∀ (w : Bool) (trs' : List TR) (ch' chx : List St) (frf' : Fr) (stf' : St), isW P o = w → TrOK L P call n ops (i + 1) (c + if w then 1 else 0) fr1 st1 trs' ch' frf' stf' → chx = (if w then st :: ch' else ch') →
            TrOK ((o, ab) :: L) P call n ops i c fr st (⟨i, ab, o, w, c, fr, v, st, st1⟩ :: trs') chx frf' stf' := by
          intro w trs' ch' chx frf' stf' hw IH hchx
          refine ⟨by simp [IH.len], fun k o' ab' hk => ?_, rfl, fun k t hk => ?_, by rw [List.map_cons]; exact IH.fin.cons hap hput, ?_⟩
          · rw [List.map_cons]
            cases k with
            | zero =>
              simp at hk; obtain ⟨rfl, rfl⟩ := hk
              refine ⟨_, rfl, rfl, rfl, rfl, hw.symm, rfl, hdn, ⟨fun j _ _ _ hj => absurd hj (Nat.not_lt_zero _), fun p _ => rfl⟩, hs, fun hh => ?_⟩
              rw [hh] at hw; subst hw
              rw [hchx]; rfl
            | succ k =>
              simp only [List.getElem?_cons_succ] at hk
              obtain ⟨t, h1, h2, h2', h3, h4, h5, h6, h7, h9, h10⟩ := IH.at' k o' ab' hk
              refine ⟨t, by simpa using h1, by omega, h2', h3, h4, ?_, h6, h7.cons hap hput, h9, fun hw' => ?_⟩
              · rw [h5, cnt_cons, hw]; omega
              · rw [cnt_cons, hw, hchx]
                have := h10 hw'
                cases w
                · simpa using this
                · simp only [if_true]; rw [Nat.add_comm 1]; simpa using this
          · cases k with
            | zero =>
              simp at hk; subst hk
              have := IH.fst
              show st1 = preS _ _ _
              rw [← this]
              unfold preS
              simp
            | succ k =>
              have := IH.nxt k t (by simpa using hk)
              rw [this]
              unfold preS
              simp
          · rw [List.map_cons, List.length_cons, cnt_cons, hw, hchx]
            have := IH.chl
            cases w
            · simp [this]
            · simp [this]; omega
        cases hw : isW P o with
        | true =>
          rw [hw] at h
          simp only [if_true] at h
          cases ht : trace P call n ops L (i + 1) (c + 1) fr1 st1 with
          | none => rw [ht] at h; cases h
          | some r =>
            obtain ⟨trs', ch', frf', stf'⟩ := r
            rw [ht] at h; cases h
            exact key true _ _ _ _ _ hw (ih ht hap') rfl
        | false =>
          rw [hw] at h
          simp only [Bool.false_eq_true, if_false] at h
          cases ht : trace P call n ops L (i + 1) c fr1 st1 with
          | none => rw [ht] at h; cases h
          | some r =>
            obtain ⟨trs', ch', frf', stf'⟩ := r
            rw [ht] at h; cases h
            exact key false _ _ _ _ _ hw (ih ht hap') rfl
end
end Sim
