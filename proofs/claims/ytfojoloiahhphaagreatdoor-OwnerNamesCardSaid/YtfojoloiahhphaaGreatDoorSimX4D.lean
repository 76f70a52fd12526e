import Derived.Test.YtfojoloiahhphaaGreatDoorSimX4
/- Sim, part 33b: regions that draw, as closures: once in the text's order; then those readers that could read otherwise are asked again. -/
namespace Sim
open Go

abbrev Pre := List (Option Bp)
abbrev StepY := CallF → Fx → St → Pre → (CV → St → Rx) → Rx
abbrev RunY := CallF → Fx → St → Pre → List St → (Fx → St → List St → Rx) → Rx
abbrev ChkY := CallF → Fx → Pre → List St → Rx → Rx
abbrev PreX := St → (Pre → St → Rx) → Rx

/- blocks laid ahead -/
noncomputable def preXK {β : Type} (P : Program) (l : List Oper) : (PreX → β) → β :=
  List.rec (motive := fun _ => (PreX → β) → β) (fun k => k fun st kk => kk [] st)
    (fun o _ ih k => Option.rec (motive := fun _ => β) (bsel (isB P o) (ih fun r => k fun st kk => forceB st.next.succ fun nx => r ⟨st.mem, nx⟩ fun as st2 => kk (some st.next :: as) st2) (ih fun r => k fun st kk => r st fun as st => kk (none :: as) st))
      (fun tz => forceN tz.1 fun t => tz.2.force fun z => ih fun r => k fun st kk => forceB st.next.succ fun nx => forceS ⟨st.mem.put st.next (some (.cells z t false)), nx⟩ fun st1 => r st1 fun as st2 => kk (some st.next :: as) st2) (newF P o)) l
theorem preXK_eq {β : Type} (P : Program) : ∀ (l : List Oper) (k : PreX → β), ∃ r : PreX, (∀ st kk, r st kk = preA P l st kk) ∧ preXK P l k = k r := by
  intro l
  induction l with
  | nil => intro k; exact ⟨_, fun _ _ => rfl, rfl⟩
  | cons o l ih =>
    intro k
    have e0 : preXK P (o :: l) k = Option.rec (motive := fun _ => β) (bsel (isB P o) (preXK P l fun r => k fun st kk => forceB st.next.succ fun nx => r ⟨st.mem, nx⟩ fun as st2 => kk (some st.next :: as) st2) (preXK P l fun r => k fun st kk => r st fun as st => kk (none :: as) st))
      (fun tz => forceN tz.1 fun t => tz.2.force fun z => preXK P l fun r => k fun st kk => forceB st.next.succ fun nx => forceS ⟨st.mem.put st.next (some (.cells z t false)), nx⟩ fun st1 => r st1 fun as st2 => kk (some st.next :: as) st2) (newF P o) := rfl
    have e1 : ∀ st (kk : Pre → St → Rx), preA P (o :: l) st kk = Option.rec (Bool.rec (motive := fun _ => Rx) (preA P l st fun as st => kk (none :: as) st) (forceB st.next.succ fun nx => preA P l ⟨st.mem, nx⟩ fun as st2 => kk (some st.next :: as) st2) (isB P o))
      (fun tz => forceB st.next.succ fun nx => forceS ⟨st.mem.put st.next (some (.cells tz.2 tz.1 false)), nx⟩ fun st1 => preA P l st1 fun as st2 => kk (some st.next :: as) st2) (newF P o) := fun _ _ => rfl
    rw [e0]
    cases hn : newF P o with
    | none =>
      dsimp only
      rw [bsel_eq]
      cases hb : isB P o with
      | true =>
        rw [if_pos rfl]
        obtain ⟨r, hr, e⟩ := ih (fun r => k fun st kk => forceB st.next.succ fun nx => r ⟨st.mem, nx⟩ fun as st2 => kk (some st.next :: as) st2)
        refine ⟨_, ?_, e⟩
        intro st kk
        rw [e1, hn, hb]
        dsimp only
        rw [forceB_eq, forceB_eq]
        exact hr _ _
      | false =>
        rw [if_neg (by simp)]
        obtain ⟨r, hr, e⟩ := ih (fun r => k fun st kk => r st fun as st => kk (none :: as) st)
        refine ⟨_, ?_, e⟩
        intro st kk
        rw [e1, hn, hb]
        exact hr st _
    | some tz =>
      dsimp only
      rw [forceN_eq, Segs.force_eq]
      obtain ⟨r, hr, e⟩ := ih (fun r => k fun st kk => forceB st.next.succ fun nx => forceS ⟨st.mem.put st.next (some (.cells tz.2 tz.1 false)), nx⟩ fun st1 => r st1 fun as st2 => kk (some st.next :: as) st2)
      refine ⟨_, ?_, e⟩
      intro st kk
      rw [e1, hn]
      dsimp only
      rw [forceB_eq, forceB_eq, forceS_eq, forceS_eq]
      exact hr _ _

/- one step: what stepD does -/
noncomputable def gopXK {β : Type} (ops : Array Oper) (g : Option (Nat × Bool)) (s : StepY) (k : StepY → β) (bad : β) : β :=
  Option.rec (motive := fun _ => β) (k s)
    (fun gb => Option.rec (motive := fun _ => β) (k fun _ _ st _ kk => kk .undef st)
      (fun d => xgetK d (fun gg => k fun call f st as kk => onG (gg f) gb.2 (s call f st as kk) (kk .undef st)) bad) ((ops[gb.1]?).bind (·.dst))) g
theorem gopXK_eq {β : Type} (ops : Array Oper) (o : Oper) (s : StepY) (k : StepY → β) (bad : β) : (∃ s' : StepY, (∀ call f fr st as kk, XR f fr → s' call f st as kk = (match wantedC ops fr o with | some true => s call f st as kk | some false => kk .undef st | none => .bad)) ∧ gopXK ops o.guard s k bad = k s') ∨ gopXK ops o.guard s k bad = bad := by
  unfold gopXK
  cases hg : o.guard with
  | none =>
    refine .inl ⟨_, ?_, rfl⟩
    intro call f fr st as kk h
    rw [wantedC_eq, hg]
  | some gb =>
    obtain ⟨g, want⟩ := gb
    dsimp only
    cases hb : (ops[g]?).bind (·.dst) with
    | none =>
      refine .inl ⟨_, ?_, rfl⟩
      intro call f fr st as kk h
      rw [wantedC_eq, hg]; dsimp only; rw [hb]
    | some d =>
      dsimp only
      rcases xgetK_eq d (fun gg => k fun call f st as kk => onG (gg f) want (s call f st as kk) (kk .undef st)) bad with ⟨hi, gg, hgg, e3⟩ | ⟨_, e3⟩
      · refine .inl ⟨_, ?_, e3⟩
        intro call f fr st as kk h
        try dsimp only
        rw [onG_eq, hgg f, h d hi]
        have hwc : wantedC ops fr o = (match fget fr (Bp.enc d) with | .bool c => some (bsel want c (Bool.not c)) | .undef => some false | _ => none) := by
          rw [wantedC_eq, hg]; dsimp only; rw [hb]; rfl
        rw [hwc]
        generalize fget fr (Bp.enc d) = cv
        cases cv with
        | bool c => dsimp only; rw [bsel_eq]; cases bsel want c (Bool.not c) <;> rfl
        | undef => rfl
        | _ => rfl
      · exact .inr e3

noncomputable def nthO (as : Pre) : Nat → Option Bp := List.rec (motive := fun _ => Nat → Option Bp) (fun _ => none) (fun a _ ih i => Nat.rec (motive := fun _ => Option Bp) a (fun j _ => ih j) i) as
theorem nthO_eq : ∀ (as : Pre) (i : Nat), nthO as i = as.getD i none := by
  intro as
  induction as with
  | nil => intro i; rfl
  | cons a as ih =>
    intro i
    cases i with
    | zero => rfl
    | succ i => show nthO as i = _; rw [ih]; rfl
noncomputable def newY (t : TypeId) (z : Segs CV) (i : Nat) : StepY := fun _ _ st as kk => Option.rec (motive := fun _ => Rx) .bad (fun b => thenQ (pNewAt b z t st) kk) (nthO as i)
noncomputable def lateY (e len : Nat) (zs : Segs CV) (g : Fx → List Part) (i : Nat) : StepY := fun _ f st as kk => Option.rec (motive := fun _ => Rx) .bad (fun b => thenS (pLateAt b e len zs (g f) st) kk) (nthO as i)
noncomputable def stepYK {β : Type} (P : Program) (ops : Array Oper) (i : Nat) (o : Oper) (k : StepY → β) (bad : β) : β :=
  Option.rec (motive := fun _ => β)
    (Option.rec (motive := fun _ => β) (Option.rec (motive := fun _ => β) bad (fun op => opXK op (fun s => gopXK ops o.guard (fun call f st _ kk => s call f st kk) k bad) bad) (compOpT P o.op))
      (fun x => forceN x.1 fun e => forceN x.2.1 fun len => (repS len x.2.2.1).force fun zs => partsK x.2.2.2 (fun g => gopXK ops o.guard (lateY e len zs g i) k bad) bad) (lateF P o))
    (fun tz => forceN tz.1 fun t => tz.2.force fun z => gopXK ops o.guard (newY t z i) k bad) (newF P o)
def AsAt (P : Program) (o : Oper) (a : Option Bp) : Prop := (newF P o = none → isB P o = false → a = none) ∧ (newF P o ≠ none ∨ isB P o = true → ∃ b, a = some b)
def StepYOK (P : Program) (ops : Array Oper) (i : Nat) (o : Oper) (s : StepY) : Prop := ∀ call f fr st as kk, XR f fr → AsAt P o (as.getD i none) → s call f st as kk = upon (stepD P call ops (as.getD i none) o fr st) kk
theorem stepYK_eq {β : Type} (P : Program) (ops : Array Oper) (i : Nat) (o : Oper) (k : StepY → β) (bad : β) : (∃ s, StepYOK P ops i o s ∧ stepYK P ops i o k bad = k s) ∨ stepYK P ops i o k bad = bad := by
  unfold stepYK
  cases hn : newF P o with
  | none =>
    dsimp only
    cases hl : lateF P o with
    | some x =>
      obtain ⟨e, len, z, ps⟩ := x
      have hB : isB P o = true := by unfold isB; rw [hl]
      dsimp only
      rw [forceN_eq, forceN_eq, Segs.force_eq]
      rcases partsK_eq ps (fun g => gopXK ops o.guard (lateY e len (repS len z) g i) k bad) bad with ⟨g, hg, e1⟩ | e1
      · rcases gopXK_eq ops o (lateY e len (repS len z) g i) k bad with ⟨s', hs', e2⟩ | e2
        · refine .inl ⟨s', ?_, e1.trans e2⟩
          intro call f fr st as kk h ha
          rw [hs' call f fr st as kk h]
          unfold stepD lateY
          rw [hn, nthO_eq]
          obtain ⟨b, hb⟩ := ha.2 (.inr hB)
          rw [hb, hl]
          dsimp only
          rw [hg f fr h]
          cases wantedC ops fr o with
          | none => rfl
          | some w =>
            cases w with
            | true => dsimp only; rw [thenS_eq]
            | false => rfl
        · exact .inr (e1.trans e2)
      · exact .inr e1
    | none =>
      have hB : isB P o = false := by unfold isB; rw [hl]
      dsimp only
      cases hop : compOpT P o.op with
      | none => exact .inr rfl
      | some op =>
        dsimp only
        rcases opXK_eq op (fun s => gopXK ops o.guard (fun call f st _ kk => s call f st kk) k bad) bad with ⟨s, hs, e⟩ | e
        · rcases gopXK_eq ops o (fun call f st _ kk => s call f st kk) k bad with ⟨s', hs', e2⟩ | e2
          · refine .inl ⟨s', ?_, e.trans e2⟩
            intro call f fr st as kk h ha
            rw [hs' call f fr st as kk h, hs call f fr st _ h]
            unfold stepD
            rw [hn, ha.1 hn hB]
            dsimp only
            rw [stepC_eq, hop]
            cases wantedC ops fr o with
            | none => rfl
            | some b => cases b <;> rfl
          · exact .inr (e.trans e2)
        · exact .inr e
  | some tz =>
    obtain ⟨t, z⟩ := tz
    dsimp only
    rw [forceN_eq, Segs.force_eq]
    rcases gopXK_eq ops o (newY t z i) k bad with ⟨s', hs', e2⟩ | e2
    · refine .inl ⟨s', ?_, e2⟩
      intro call f fr st as kk h ha
      rw [hs' call f fr st as kk h]
      unfold stepD newY
      rw [hn, nthO_eq]
      obtain ⟨b, hb⟩ := ha.2 (.inl (by rw [hn]; simp))
      rw [hb]
      dsimp only
      cases wantedC ops fr o with
      | none => rfl
      | some w =>
        cases w with
        | true => dsimp only; rw [thenQ_eq]
        | false => rfl
    · exact .inr e2

/- the region, once, in the text's order -/
noncomputable def opsYK {β : Type} (P : Program) (n : Nat) (ops : Array Oper) (l : List Oper) : Nat → (RunY → β) → β :=
  List.rec (motive := fun _ => Nat → (RunY → β) → β) (fun _ k => k fun _ f st _ sts kk => kk f st sts)
    (fun o _ ih i k => stepYK P ops i o (fun s => dstXK n o.dst (fun wr => ih (Nat.succ i) fun r => bsel (isW P o)
        (k fun call f st as sts kk => s call f st as fun v st' => wr f v st' fun f st' => r call f st' as (st :: sts) kk)
        (k fun call f st as sts kk => s call f st as fun v st => wr f v st fun f st => r call f st as sts kk)) (k fun _ _ _ _ _ _ => .bad)) (k fun _ _ _ _ _ _ => .bad)) l
def RunYOK (P : Program) (n : Nat) (ops : Array Oper) (l : List Oper) (i : Nat) (r : RunY) : Prop := ∀ call f fr st (as as' : Pre) sts kk c, XR f fr → as.drop i = as' → (∀ j o, l[j]? = some o → AsAt P o (as.getD (i + j) none) ∧ as'[j]? = some (as.getD (i + j) none)) →
  r call f st as sts kk = .bad ∨ ∃ trs ch frf stf f', trace P call n ops (l.zip as') i c fr st = some (trs, ch, frf, stf) ∧ XR f' frf ∧ r call f st as sts kk = kk f' stf (ch.reverse ++ sts)
theorem trace_cons {P : Program} {call : CallF} {n : Nat} {ops : Array Oper} {o : Oper} {ab : Option Bp} {L : List (Oper × Option Bp)} {i c : Nat} {fr : Fr} {st st' : St} {v : CV} {fr' : Fr} (h : stepD P call ops ab o fr st = .ok v st') (hp : putC n o.dst v fr = some fr') :
    trace P call n ops ((o, ab) :: L) i c fr st = bsel (isW P o)
        (Option.rec none (fun r => some (⟨i, ab, o, true, c, fr, v, st, st'⟩ :: r.1, st :: r.2.1, r.2.2)) (trace P call n ops L (i + 1) (c + 1) fr' st'))
        (Option.rec none (fun r => some (⟨i, ab, o, false, c, fr, v, st, st'⟩ :: r.1, r.2.1, r.2.2)) (trace P call n ops L (i + 1) c fr' st')) := by
  have e : trace P call n ops ((o, ab) :: L) i c fr st = OR.rec (motive := fun _ => Option TRes) (fun v st' => forceV v fun v => forceS st' fun st' =>
      Option.rec none (fun fr' => bsel (isW P o)
        (Option.rec none (fun r => some (⟨i, ab, o, true, c, fr, v, st, st'⟩ :: r.1, st :: r.2.1, r.2.2)) (trace P call n ops L (i + 1) (c + 1) fr' st'))
        (Option.rec none (fun r => some (⟨i, ab, o, false, c, fr, v, st, st'⟩ :: r.1, r.2.1, r.2.2)) (trace P call n ops L (i + 1) c fr' st'))) (putC n o.dst v fr)) none (stepD P call ops ab o fr st) := rfl
  rw [e, h]
  dsimp only
  rw [forceV_eq, forceS_eq, hp]
theorem opsYK_eq {β : Type} (P : Program) (n : Nat) (ops : Array Oper) : ∀ (l : List Oper) (i : Nat) (k : RunY → β), ∃ r, RunYOK P n ops l i r ∧ opsYK P n ops l i k = k r := by
  intro l
  induction l with
  | nil =>
    intro i k
    refine ⟨_, ?_, rfl⟩
    intro call f fr st as as' sts kk c h _ _
    exact .inr ⟨[], [], fr, st, f, rfl, h, rfl⟩
  | cons o l ih =>
    intro i k
    have e0 : opsYK P n ops (o :: l) i k = stepYK P ops i o (fun s => dstXK n o.dst (fun wr => opsYK P n ops l (Nat.succ i) fun r => bsel (isW P o)
        (k fun call f st as sts kk => s call f st as fun v st' => wr f v st' fun f st' => r call f st' as (st :: sts) kk)
        (k fun call f st as sts kk => s call f st as fun v st => wr f v st fun f st => r call f st as sts kk)) (k fun _ _ _ _ _ _ => .bad)) (k fun _ _ _ _ _ _ => .bad) := rfl
    have hbad : ∃ r, RunYOK P n ops (o :: l) i r ∧ (k fun _ _ _ _ _ _ => .bad) = k r := by
      refine ⟨_, ?_, rfl⟩
      intro call f fr st as as' sts kk c h _ _
      exact .inl rfl
    rw [e0]
    rcases stepYK_eq P ops i o (fun s => dstXK n o.dst (fun wr => opsYK P n ops l (Nat.succ i) fun r => bsel (isW P o)
        (k fun call f st as sts kk => s call f st as fun v st' => wr f v st' fun f st' => r call f st' as (st :: sts) kk)
        (k fun call f st as sts kk => s call f st as fun v st => wr f v st fun f st => r call f st as sts kk)) (k fun _ _ _ _ _ _ => .bad)) (k fun _ _ _ _ _ _ => .bad) with ⟨s, hs, e⟩ | e
    · rw [e]
      rcases dstXK_eq n o.dst (fun wr => opsYK P n ops l (Nat.succ i) fun r => bsel (isW P o)
        (k fun call f st as sts kk => s call f st as fun v st' => wr f v st' fun f st' => r call f st' as (st :: sts) kk)
        (k fun call f st as sts kk => s call f st as fun v st => wr f v st fun f st => r call f st as sts kk)) (k fun _ _ _ _ _ _ => .bad) with ⟨wr, hwr, e2⟩ | e2
      · rw [e2]
        obtain ⟨r, hr, e3⟩ := ih (Nat.succ i) (fun r => bsel (isW P o)
          (k fun call f st as sts kk => s call f st as fun v st' => wr f v st' fun f st' => r call f st' as (st :: sts) kk)
          (k fun call f st as sts kk => s call f st as fun v st => wr f v st fun f st => r call f st as sts kk))
        rw [e3]
        -- a step, and what follows
        have key : (∀ call f fr st (as as' : Pre) (S : List St) kk c, XR f fr → as.drop i = as' → (∀ j o', (o :: l)[j]? = some o' → AsAt P o' (as.getD (i + j) none) ∧ as'[j]? = some (as.getD (i + j) none)) →
            (s call f st as fun v st => wr f v st fun f st => r call f st as S kk) = .bad ∨ ∃ v st' fr' trs ch frf stf f' as2, as' = as.getD i none :: as2 ∧ stepD P call ops (as.getD i none) o fr st = .ok v st' ∧ putC n o.dst v fr = some fr' ∧
              trace P call n ops (l.zip as2) (i + 1) c fr' st' = some (trs, ch, frf, stf) ∧ XR f' frf ∧ (s call f st as fun v st => wr f v st fun f st => r call f st as S kk) = kk f' stf (ch.reverse ++ S)) := by
          intro call f fr st as as' S kk c h had has
          have h0 := has 0 o rfl
          rw [Nat.add_zero] at h0
          rw [hs call f fr st as _ h h0.1]
          cases hst : stepD P call ops (as.getD i none) o fr st with
          | bad => exact .inl rfl
          | ok v st' =>
            have hw1 : (upon (OR.ok v st') fun v st => wr f v st fun f st => r call f st as S kk) = (match o.dst with | none => r call f st' as S kk | some d => r call (xput d f v) st' as S kk) := hwr.1 f v st' _
            rw [hw1]
            have h1 : as' = as.getD i none :: as.drop (i + 1) := by
              have h2 : as'[0]? = some (as.getD i none) := h0.2
              rw [← had] at h2 ⊢
              rw [List.getElem?_drop, Nat.add_zero] at h2
              have hlt : i < as.length := (List.getElem?_eq_some_iff.1 h2).1
              rw [List.drop_eq_getElem_cons hlt]
              congr 1
              rw [List.getElem?_eq_getElem hlt] at h2
              exact Option.some.inj h2
            have h3 : ∀ j o', l[j]? = some o' → AsAt P o' (as.getD (i + 1 + j) none) ∧ (as.drop (i + 1))[j]? = some (as.getD (i + 1 + j) none) := by
              intro j o' hj
              have := has (j + 1) o' (by simpa using hj)
              rw [h1] at this
              rw [show i + 1 + j = i + (j + 1) by omega]
              exact ⟨this.1, by simpa using this.2⟩
            have fin : ∀ (f1 : Fx) (fr' : Fr), XR f1 fr' → putC n o.dst v fr = some fr' → r call f1 st' as S kk = .bad ∨ ∃ v1 st1 fr' trs ch frf stf f' as2, as' = as.getD i none :: as2 ∧ OR.ok v st' = .ok v1 st1 ∧ putC n o.dst v1 fr = some fr' ∧
                trace P call n ops (l.zip as2) (i + 1) c fr' st1 = some (trs, ch, frf, stf) ∧ XR f' frf ∧ r call f1 st' as S kk = kk f' stf (ch.reverse ++ S) := by
              intro f1 fr' hx hp
              rcases hr call f1 fr' st' as (as.drop (i + 1)) S kk c hx rfl h3 with hb | ⟨trs, ch, frf, stf, f', g1, g2, g3⟩
              · exact .inl hb
              · exact .inr ⟨v, st', fr', trs, ch, frf, stf, f', _, h1, rfl, hp, g1, g2, g3⟩
            cases hd : o.dst with
            | none =>
              rw [hd] at fin
              dsimp only
              exact fin f fr h rfl
            | some d =>
              rw [hd] at fin
              have hlt := hwr.2 d hd
              dsimp only
              refine fin (xput d f v) (fr.put (Bp.enc d) (some v)) (h.put hlt.2 v) ?_
              unfold putC
              simp only [bsel_eq, Nat.ble_eq, PT.force_eq]
              rw [if_pos (show Nat.succ d ≤ n from hlt.1)]
        rw [bsel_eq]
        split
        · rename_i hw
          refine ⟨_, ?_, rfl⟩
          intro call f fr st as as' sts kk c h had has
          rcases key call f fr st as as' (st :: sts) kk (c + 1) h had has with hb | ⟨v, st', fr', trs, ch, frf, stf, f', as2, g0, g1, g2, g3, g4, g5⟩
          · exact .inl hb
          · refine .inr ⟨⟨i, as.getD i none, o, true, c, fr, v, st, st'⟩ :: trs, st :: ch, frf, stf, f', ?_, g4, by dsimp only; rw [g5]; simp⟩
            rw [g0, List.zip_cons_cons, trace_cons g1 g2, hw, bsel_eq, if_pos rfl, g3]
        · rename_i hw
          refine ⟨_, ?_, rfl⟩
          intro call f fr st as as' sts kk c h had has
          rcases key call f fr st as as' sts kk c h had has with hb | ⟨v, st', fr', trs, ch, frf, stf, f', as2, g0, g1, g2, g3, g4, g5⟩
          · exact .inl hb
          · refine .inr ⟨⟨i, as.getD i none, o, false, c, fr, v, st, st'⟩ :: trs, ch, frf, stf, f', ?_, g4, g5⟩
            rw [g0, List.zip_cons_cons, trace_cons g1 g2, show isW P o = false by simpa using hw, bsel_eq, if_neg (by simp), g3]
      · rw [e2]; exact hbad
    · rw [e]; exact hbad
end Sim
