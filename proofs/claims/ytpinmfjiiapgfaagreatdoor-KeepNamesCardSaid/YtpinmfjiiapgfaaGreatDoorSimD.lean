import Derived.Test.YtpinmfjiiapgfaaGreatDoorSimC
/- Sim, part 33b: regions that draw, as closures: once in the text's order; then those readers that could read otherwise are asked again. -/
namespace Sim
open Go

abbrev Pre := List (Option Bp)
abbrev StepY := CallF → Fx → St → Pre → (CV → St → Rx) → Rx
abbrev RunY := CallF → Fx → St → Pre → List St → (Fx → St → List St → Rx) → Rx
abbrev ChkY := CallF → Fx → Pre → List St → Rx → Rx
abbrev PreX := St → (Pre → St → Rx) → Rx

/- blocks laid ahead -/
noncomputable def preXK {β : Type} (P : Program) (l : List Oper) : (PreX → β) → β :=
  List.rec (motive := fun _ => (PreX → β) → β) (fun k => k fun st kk => kk [] st)
    (fun o _ ih k => Option.rec (motive := fun _ => β) (bsel (isB P o) (ih fun r => k fun st kk => forceB st.next.succ fun nx => r ⟨st.mem, nx⟩ fun as st2 => kk (some st.next :: as) st2) (ih fun r => k fun st kk => r st fun as st => kk (none :: as) st))
      (fun tz => forceN tz.1 fun t => tz.2.force fun z => ih fun r => k fun st kk => forceB st.next.succ fun nx => forceS ⟨st.mem.put st.next (some (.cells z t false)), nx⟩ fun st1 => r st1 fun as st2 => kk (some st.next :: as) st2) (newF P o)) l
theorem preXK_eq {β : Type} (P : Program) : ∀ (l : List Oper) (k : PreX → β), ∃ r : PreX, (∀ st kk, r st kk = preA P l st kk) ∧ preXK P l k = k r := by
  intro l
  induction l with
  | nil => intro k; exact ⟨_, fun _ _ => rfl, rfl⟩
  | cons o l ih =>
    intro k
    have e0 : preXK P (o :: l) k = Option.rec (motive := fun _ => β) (bsel (isB P o) (preXK P l fun r => k fun st kk => forceB st.next.succ fun nx => r ⟨st.mem, nx⟩ fun as st2 => kk (some st.next :: as) st2) (preXK P l fun r => k fun st kk => r st fun as st => kk (none :: as) st))
      (fun tz => forceN tz.1 fun t => tz.2.force fun z => preXK P l fun r => k fun st kk => forceB st.next.succ fun nx => forceS ⟨st.mem.put st.next (some (.cells z t false)), nx⟩ fun st1 => r st1 fun as st2 => kk (some st.next :: as) st2) (newF P o) := rfl
    have e1 : ∀ st (kk : Pre → St → Rx), preA P (o :: l) st kk = Option.rec (Bool.rec (motive := fun _ => Rx) (preA P l st fun as st => kk (none :: as) st) (forceB st.next.succ fun nx => preA P l ⟨st.mem, nx⟩ fun as st2 => kk (some st.next :: as) st2) (isB P o))
      (fun tz => forceB st.next.succ fun nx => forceS ⟨st.mem.put st.next (some (.cells tz.2 tz.1 false)), nx⟩ fun st1 => preA P l st1 fun as st2 => kk (some st.next :: as) st2) (newF P o) := fun _ _ => rfl
    rw [e0]
    cases hn : newF P o with
    | none =>
      dsimp only
      rw [bsel_eq]
      cases hb : isB P o with
      | true =>
        rw [if_pos rfl]
        obtain ⟨r, hr, e⟩ := ih (fun r => k fun st kk => forceB st.next.succ fun nx => r ⟨st.mem, nx⟩ fun as st2 => kk (some st.next :: as) st2)
        refine ⟨_, ?_, e⟩
        intro st kk
        rw [e1, hn, hb]
        dsimp only
        rw [forceB_eq, forceB_eq]
        exact hr _ _
      | false =>
        rw [if_neg (by simp)]
        obtain ⟨r, hr, e⟩ := ih (fun r => k fun st kk => r st fun as st => kk (none :: as) st)
        refine ⟨_, ?_, e⟩
        intro st kk
        rw [e1, hn, hb]
        exact hr st _
    | some tz =>
      dsimp only
      rw [forceN_eq, Segs.force_eq]
      obtain ⟨r, hr, e⟩ := ih (fun r => k fun st kk => forceB st.next.succ fun nx => forceS ⟨st.mem.put st.next (some (.cells tz.2 tz.1 false)), nx⟩ fun st1 => r st1 fun as st2 => kk (some st.next :: as) st2)
      refine ⟨_, ?_, e⟩
      intro st kk
      rw [e1, hn]
      dsimp only
      rw [forceB_eq, forceB_eq, forceS_eq, forceS_eq]
      exact hr _ _

/- one step: what stepD does -/
noncomputable def gopXK {β : Type} (ops : Array Oper) (g : Option (Nat × Bool)) (s : StepY) (k : StepY → β) (bad : β) : β :=
  Option.rec (motive := fun _ => β) (k s)
    (fun gb => Option.rec (motive := fun _ => β) (k fun _ _ st _ kk => kk .undef st)
      (fun d => xgetK d (fun gg => k fun call f st as kk => onG (gg f) gb.2 (s call f st as kk) (kk .undef st)) bad) ((ops[gb.1]?).bind (·.dst))) g
theorem gopXK_eq {β : Type} (ops : Array Oper) (o : Oper) (s : StepY) (k : StepY → β) (bad : β) : (∃ s' : StepY, (∀ call f fr st as kk, XR f fr → s' call f st as kk = (match wantedC ops fr o with | some true => s call f st as kk | some false => kk .undef st | none => .bad)) ∧ gopXK ops o.guard s k bad = k s') ∨ gopXK ops o.guard s k bad = bad := by
  unfold gopXK
  cases hg : o.guard with
  | none =>
    refine .inl ⟨_, ?_, rfl⟩
    intro call f fr st as kk h
    rw [wantedC_eq, hg]
  | some gb =>
    obtain ⟨g, want⟩ := gb
    dsimp only
    cases hb : (ops[g]?).bind (·.dst) with
    | none =>
      refine .inl ⟨_, ?_, rfl⟩
      intro call f fr st as kk h
      rw [wantedC_eq, hg]; dsimp only; rw [hb]
    | some d =>
      dsimp only
      rcases xgetK_eq d (fun gg => k fun call f st as kk => onG (gg f) want (s call f st as kk) (kk .undef st)) bad with ⟨hi, gg, hgg, e3⟩ | ⟨_, e3⟩
      · refine .inl ⟨_, ?_, e3⟩
        intro call f fr st as kk h
        try dsimp only
        rw [onG_eq, hgg f, h d hi]
        have hwc : wantedC ops fr o = (match fget fr (Bp.enc d) with | .bool c => some (bsel want c (Bool.not c)) | .undef => some false | _ => none) := by
          rw [wantedC_eq, hg]; dsimp only; rw [hb]; rfl
        rw [hwc]
        generalize fget fr (Bp.enc d) = cv
        cases cv with
        | bool c => dsimp only; rw [bsel_eq]; cases bsel want c (Bool.not c) <;> rfl
        | undef => rfl
        | _ => rfl
      · exact .inr e3

noncomputable def nthO (as : Pre) : Nat → Option Bp := List.rec (motive := fun _ => Nat → Option Bp) (fun _ => none) (fun a _ ih i => Nat.rec (motive := fun _ => Option Bp) a (fun j _ => ih j) i) as
theorem nthO_eq : ∀ (as : Pre) (i : Nat), nthO as i = as.getD i none := by
  intro as
  induction as with
  | nil => intro i; rfl
  | cons a as ih =>
    intro i
    cases i with
    | zero => rfl
    | succ i => show nthO as i = _; rw [ih]; rfl
noncomputable def newY (t : TypeId) (z : Segs CV) (i : Nat) : StepY := fun _ _ st as kk => Option.rec (motive := fun _ => Rx) .bad (fun b => thenQ (pNewAt b z t st) kk) (nthO as i)
noncomputable def lateY (e len : Nat) (zs : Segs CV) (g : Fx → List Part) (i : Nat) : StepY := fun _ f st as kk => Option.rec (motive := fun _ => Rx) .bad (fun b => thenS (pLateAt b e len zs (g f) st) kk) (nthO as i)
noncomputable def stepYK {β : Type} (P : Program) (ops : Array Oper) (i : Nat) (o : Oper) (k : StepY → β) (bad : β) : β :=
  Option.rec (motive := fun _ => β)
    (Option.rec (motive := fun _ => β) (Option.rec (motive := fun _ => β) bad (fun op => opXK op (fun s => gopXK ops o.guard (fun call f st _ kk => s call f st kk) k bad) bad) (compOpT P o.op))
      (fun x => forceN x.1 fun e => forceN x.2.1 fun len => (repS len x.2.2.1).force fun zs => partsK x.2.2.2 (fun g => gopXK ops o.guard (lateY e len zs g i) k bad) bad) (lateF P o))
    (fun tz => forceN tz.1 fun t => tz.2.force fun z => gopXK ops o.guard (newY t z i) k bad) (newF P o)
def AsAt (P : Program) (o : Oper) (a : Option Bp) : Prop := (newF P o = none → isB P o = false → a = none) ∧ (newF P o ≠ none ∨ isB P o = true → ∃ b, a = some b)
def StepYOK (P : Program) (ops : Array Oper) (i : Nat) (o : Oper) (s : StepY) : Prop := ∀ call f fr st as kk, XR f fr → AsAt P o (as.getD i none) → s call f st as kk = upon (stepD P call ops (as.getD i none) o fr st) kk
theorem stepYK_eq {β : Type} (P : Program) (ops : Array Oper) (i : Nat) (o : Oper) (k : StepY → β) (bad : β) : (∃ s, StepYOK P ops i o s ∧ stepYK P ops i o k bad = k s) ∨ stepYK P ops i o k bad = bad := by
  unfold stepYK
  cases hn : newF P o with
  | none =>
    dsimp only
    cases hl : lateF P o with
    | some x =>
      obtain ⟨e, len, z, ps⟩ := x
      have hB : isB P o = true := by unfold isB; rw [hl]
      dsimp only
      rw [forceN_eq, forceN_eq, Segs.force_eq]
      rcases partsK_eq ps (fun g => gopXK ops o.guard (lateY e len (repS len z) g i) k bad) bad with ⟨g, hg, e1⟩ | e1
      · rcases gopXK_eq ops o (lateY e len (repS len z) g i) k bad with ⟨s', hs', e2⟩ | e2
        · refine .inl ⟨s', ?_, e1.trans e2⟩
          intro call f fr st as kk h ha
          rw [hs' call f fr st as kk h]
          unfold stepD lateY
          rw [hn, nthO_eq]
          obtain ⟨b, hb⟩ := ha.2 (.inr hB)
          rw [hb, hl]
          dsimp only
          rw [hg f fr h]
          cases wantedC ops fr o with
          | none => rfl
          | some w =>
            cases w with
            | true => dsimp only; rw [thenS_eq]
            | false => rfl
        · exact .inr (e1.trans e2)
      · exact .inr e1
    | none =>
      have hB : isB P o = false := by unfold isB; rw [hl]
      dsimp only
      cases hop : compOpT P o.op with
      | none => exact .inr rfl
      | some op =>
        dsimp only
        rcases opXK_eq op (fun s => gopXK ops o.guard (fun call f st _ kk => s call f st kk) k bad) bad with ⟨s, hs, e⟩ | e
        · rcases gopXK_eq ops o (fun call f st _ kk => s call f st kk) k bad with ⟨s', hs', e2⟩ | e2
          · refine .inl ⟨s', ?_, e.trans e2⟩
            intro call f fr st as kk h ha
            rw [hs' call f fr st as kk h, hs call f fr st _ h]
            unfold stepD
            rw [hn, ha.1 hn hB]
            dsimp only
            rw [stepC_eq, hop]
            cases wantedC ops fr o with
            | none => rfl
            | some b => cases b <;> rfl
          · exact .inr (e.trans e2)
        · exact .inr e
  | some tz =>
    obtain ⟨t, z⟩ := tz
    dsimp only
    rw [forceN_eq, Segs.force_eq]
    rcases gopXK_eq ops o (newY t z i) k bad with ⟨s', hs', e2⟩ | e2
    · refine .inl ⟨s', ?_, e2⟩
      intro call f fr st as kk h ha
      rw [hs' call f fr st as kk h]
      unfold stepD newY
      rw [hn, nthO_eq]
      obtain ⟨b, hb⟩ := ha.2 (.inl (by rw [hn]; simp))
      rw [hb]
      dsimp only
      cases wantedC ops fr o with
      | none => rfl
      | some w =>
        cases w with
        | true => dsimp only; rw [thenQ_eq]
        | false => rfl
    · exact .inr e2

/- the region, once, in the text's order -/
noncomputable def opsYK {β : Type} (P : Program) (n : Nat) (ops : Array Oper) (l : List Oper) : Nat → (RunY → β) → β :=
  List.rec (motive := fun _ => Nat → (RunY → β) → β) (fun _ k => k fun _ f st _ sts kk => kk f st sts)
    (fun o _ ih i k => stepYK P ops i o (fun s => dstXK n o.dst (fun wr => ih (Nat.succ i) fun r => bsel (isW P o)
        (k fun call f st as sts kk => s call f st as fun v st' => wr f v st' fun f st' => r call f st' as (st :: sts) kk)
        (k fun call f st as sts kk => s call f st as fun v st => wr f v st fun f st => r call f st as sts kk)) (k fun _ _ _ _ _ _ => .bad)) (k fun _ _ _ _ _ _ => .bad)) l
def RunYOK (P : Program) (n : Nat) (ops : Array Oper) (l : List Oper) (i : Nat) (r : RunY) : Prop := ∀ call f fr st (as as' : Pre) sts kk c, XR f fr → as.drop i = as' → (∀ j o, l[j]? = some o → AsAt P o (as.getD (i + j) none) ∧ as'[j]? = some (as.getD (i + j) none)) →
  r call f st as sts kk = .bad ∨ ∃ trs ch frf stf f', trace P call n ops (l.zip as') i c fr st = some (trs, ch, frf, stf) ∧ XR f' frf ∧ r call f st as sts kk = kk f' stf (ch.reverse ++ sts)
theorem trace_cons {P : Program} {call : CallF} {n : Nat} {ops : Array Oper} {o : Oper} {ab : Option Bp} {L : List (Oper × Option Bp)} {i c : Nat} {fr : Fr} {st st' : St} {v : CV} {fr' : Fr} (h : stepD P call ops ab o fr st = .ok v st') (hp : putC n o.dst v fr = some fr') :
    trace P call n ops ((o, ab) :: L) i c fr st = bsel (isW P o)
        (Option.rec none (fun r => some (⟨i, ab, o, true, c, fr, v, st, st'⟩ :: r.1, st :: r.2.1, r.2.2)) (trace P call n ops L (i + 1) (c + 1) fr' st'))
        (Option.rec none (fun r => some (⟨i, ab, o, false, c, fr, v, st, st'⟩ :: r.1, r.2.1, r.2.2)) (trace P call n ops L (i + 1) c fr' st')) := by
  have e : trace P call n ops ((o, ab) :: L) i c fr st = OR.rec (motive := fun _ => Option TRes) (fun v st' => forceV v fun v => forceS st' fun st' =>
      Option.rec none (fun fr' => bsel (isW P o)
        (Option.rec none (fun r => some (⟨i, ab, o, true, c, fr, v, st, st'⟩ :: r.1, st :: r.2.1, r.2.2)) (trace P call n ops L (i + 1) (c + 1) fr' st'))
        (Option.rec none (fun r => some (⟨i, ab, o, false, c, fr, v, st, st'⟩ :: r.1, r.2.1, r.2.2)) (trace P call n ops L (i + 1) c fr' st'))) (putC n o.dst v fr)) none (stepD P call ops ab o fr st) := rfl
  rw [e, h]
  dsimp only
  rw [forceV_eq, forceS_eq, hp]
theorem opsYK_eq {β : Type} (P : Program) (n : Nat) (ops : Array Oper) : ∀ (l : List Oper) (i : Nat) (k : RunY → β), ∃ r, RunYOK P n ops l i r ∧ opsYK P n ops l i k = k r := by
  intro l
  induction l with
  | nil =>
    intro i k
    refine ⟨_, ?_, rfl⟩
    intro call f fr st as as' sts kk c h _ _
    exact .inr ⟨[], [], fr, st, f, rfl, h, rfl⟩
  | cons o l ih =>
    intro i k
    have e0 : opsYK P n ops (o :: l) i k = stepYK P ops i o (fun s => dstXK n o.dst (fun wr => opsYK P n ops l (Nat.succ i) fun r => bsel (isW P o)
        (k fun call f st as sts kk => s call f st as fun v st' => wr f v st' fun f st' => r call f st' as (st :: sts) kk)
        (k fun call f st as sts kk => s call f st as fun v st => wr f v st fun f st => r call f st as sts kk)) (k fun _ _ _ _ _ _ => .bad)) (k fun _ _ _ _ _ _ => .bad) := rfl
    have hbad : ∃ r, RunYOK P n ops (o :: l) i r ∧ (k fun _ _ _ _ _ _ => .bad) = k r := by
      refine ⟨_, ?_, rfl⟩
      intro call f fr st as as' sts kk c h _ _
      exact .inl rfl
    rw [e0]
    rcases stepYK_eq P ops i o (fun s => dstXK n o.dst (fun wr => opsYK P n ops l (Nat.succ i) fun r => bsel (isW P o)
        (k fun call f st as sts kk => s call f st as fun v st' => wr f v st' fun f st' => r call f st' as (st :: sts) kk)
        (k fun call f st as sts kk => s call f st as fun v st => wr f v st fun f st => r call f st as sts kk)) (k fun _ _ _ _ _ _ => .bad)) (k fun _ _ _ _ _ _ => .bad) with ⟨s, hs, e⟩ | e
    · rw [e]
      rcases dstXK_eq n o.dst (fun wr => opsYK P n ops l (Nat.succ i) fun r => bsel (isW P o)
        (k fun call f st as sts kk => s call f st as fun v st' => wr f v st' fun f st' => r call f st' as (st :: sts) kk)
        (k fun call f st as sts kk => s call f st as fun v st => wr f v st fun f st => r call f st as sts kk)) (k fun _ _ _ _ _ _ => .bad) with ⟨wr, hwr, e2⟩ | e2
      · rw [e2]
        obtain ⟨r, hr, e3⟩ := ih (Nat.succ i) (fun r => bsel (isW P o)
          (k fun call f st as sts kk => s call f st as fun v st' => wr f v st' fun f st' => r call f st' as (st :: sts) kk)
          (k fun call f st as sts kk => s call f st as fun v st => wr f v st fun f st => r call f st as sts kk))
        rw [e3]
        -- a step, and what follows
        have key : (∀ call f fr st (as as' : Pre) (S : List St) kk c, XR f fr → as.drop i = as' → (∀ j o', (o :: l)[j]? = some o' → AsAt P o' (as.getD (i + j) none) ∧ as'[j]? = some (as.getD (i + j) none)) →
            (s call f st as fun v st => wr f v st fun f st => r call f st as S kk) = .bad ∨ ∃ v st' fr' trs ch frf stf f' as2, as' = as.getD i none :: as2 ∧ stepD P call ops (as.getD i none) o fr st = .ok v st' ∧ putC n o.dst v fr = some fr' ∧
              trace P call n ops (l.zip as2) (i + 1) c fr' st' = some (trs, ch, frf, stf) ∧ XR f' frf ∧ (s call f st as fun v st => wr f v st fun f st => r call f st as S kk) = kk f' stf (ch.reverse ++ S)) := by
          intro call f fr st as as' S kk c h had has
          have h0 := has 0 o rfl
          rw [Nat.add_zero] at h0
          rw [hs call f fr st as _ h h0.1]
          cases hst : stepD P call ops (as.getD i none) o fr st with
          | bad => exact .inl rfl
          | ok v st' =>
            have hw1 : (upon (OR.ok v st') fun v st => wr f v st fun f st => r call f st as S kk) = (match o.dst with | none => r call f st' as S kk | some d => r call (xput d f v) st' as S kk) := hwr.1 f v st' _
            rw [hw1]
            have h1 : as' = as.getD i none :: as.drop (i + 1) := by
              have h2 : as'[0]? = some (as.getD i none) := h0.2
              rw [← had] at h2 ⊢
              rw [List.getElem?_drop, Nat.add_zero] at h2
              have hlt : i < as.length := (List.getElem?_eq_some_iff.1 h2).1
              rw [List.drop_eq_getElem_cons hlt]
              congr 1
              rw [List.getElem?_eq_getElem hlt] at h2
              exact Option.some.inj h2
            have h3 : ∀ j o', l[j]? = some o' → AsAt P o' (as.getD (i + 1 + j) none) ∧ (as.drop (i + 1))[j]? = some (as.getD (i + 1 + j) none) := by
              intro j o' hj
              have := has (j + 1) o' (by simpa using hj)
              rw [h1] at this
              rw [show i + 1 + j = i + (j + 1) by omega]
              exact ⟨this.1, by simpa using this.2⟩
            have fin : ∀ (f1 : Fx) (fr' : Fr), XR f1 fr' → putC n o.dst v fr = some fr' → r call f1 st' as S kk = .bad ∨ ∃ v1 st1 fr' trs ch frf stf f' as2, as' = as.getD i none :: as2 ∧ OR.ok v st' = .ok v1 st1 ∧ putC n o.dst v1 fr = some fr' ∧
                trace P call n ops (l.zip as2) (i + 1) c fr' st1 = some (trs, ch, frf, stf) ∧ XR f' frf ∧ r call f1 st' as S kk = kk f' stf (ch.reverse ++ S) := by
              intro f1 fr' hx hp
              rcases hr call f1 fr' st' as (as.drop (i + 1)) S kk c hx rfl h3 with hb | ⟨trs, ch, frf, stf, f', g1, g2, g3⟩
              · exact .inl hb
              · exact .inr ⟨v, st', fr', trs, ch, frf, stf, f', _, h1, rfl, hp, g1, g2, g3⟩
            cases hd : o.dst with
            | none =>
              rw [hd] at fin
              dsimp only
              exact fin f fr h rfl
            | some d =>
              rw [hd] at fin
              have hlt := hwr.2 d hd
              dsimp only
              refine fin (xput d f v) (fr.put (Bp.enc d) (some v)) (h.put hlt.2 v) ?_
              unfold putC
              simp only [bsel_eq, Nat.ble_eq, PT.force_eq]
              rw [if_pos (show Nat.succ d ≤ n from hlt.1)]
        rw [bsel_eq]
        split
        · rename_i hw
          refine ⟨_, ?_, rfl⟩
          intro call f fr st as as' sts kk c h had has
          rcases key call f fr st as as' (st :: sts) kk (c + 1) h had has with hb | ⟨v, st', fr', trs, ch, frf, stf, f', as2, g0, g1, g2, g3, g4, g5⟩
          · exact .inl hb
          · refine .inr ⟨⟨i, as.getD i none, o, true, c, fr, v, st, st'⟩ :: trs, st :: ch, frf, stf, f', ?_, g4, by dsimp only; rw [g5]; simp⟩
            rw [g0, List.zip_cons_cons, trace_cons g1 g2, hw, bsel_eq, if_pos rfl, g3]
        · rename_i hw
          refine ⟨_, ?_, rfl⟩
          intro call f fr st as as' sts kk c h had has
          rcases key call f fr st as as' sts kk c h had has with hb | ⟨v, st', fr', trs, ch, frf, stf, f', as2, g0, g1, g2, g3, g4, g5⟩
          · exact .inl hb
          · refine .inr ⟨⟨i, as.getD i none, o, false, c, fr, v, st, st'⟩ :: trs, ch, frf, stf, f', ?_, g4, g5⟩
            rw [g0, List.zip_cons_cons, trace_cons g1 g2, show isW P o = false by simpa using hw, bsel_eq, if_neg (by simp), g3]
      · rw [e2]; exact hbad
    · rw [e]; exact hbad
end Sim

/- Sim, part 33c: the readers that are asked again; a region that draws, as one closure. -/
namespace Sim
open Go

noncomputable def bareO (P : Program) (o : Oper) : Bool := Option.rec (motive := fun _ => Bool) (Option.rec (motive := fun _ => Bool) false (fun op => op.bare) (compOpT P o.op)) (fun _ => false) (newF P o)
abbrev Ann := Nat × Nat × Oper
noncomputable def annL (P : Program) (l : List Oper) : Nat → Nat → List Ann :=
  List.rec (motive := fun _ => Nat → Nat → List Ann) (fun _ _ => []) (fun o _ ih i c => (i, c, o) :: ih (Nat.succ i) (bsel (isW P o) (Nat.succ c) c)) l
noncomputable def cntL (P : Program) (l : List Oper) : Nat := List.rec (motive := fun _ => Nat) 0 (fun o _ n => bsel (isW P o) (Nat.succ n) n) l
theorem cntL_eq (P : Program) : ∀ l : List Oper, cntL P l = cnt P l l.length := by
  intro l
  induction l with
  | nil => rfl
  | cons o l ih =>
    have e : cntL P (o :: l) = bsel (isW P o) (Nat.succ (cntL P l)) (cntL P l) := rfl
    rw [e, List.length_cons, cnt_cons, ih, bsel_eq]
    split <;> omega
theorem annL_at (P : Program) : ∀ (l : List Oper) (i c k : Nat) (o : Oper), l[k]? = some o → (annL P l i c)[k]? = some (i + k, c + cnt P l k, o) := by
  intro l
  induction l with
  | nil => intro i c k o h; simp at h
  | cons o' l ih =>
    intro i c k o h
    have e : annL P (o' :: l) i c = (i, c, o') :: annL P l (Nat.succ i) (bsel (isW P o') (Nat.succ c) c) := rfl
    rw [e]
    cases k with
    | zero => simp at h; subst h; rfl
    | succ k =>
      rw [List.getElem?_cons_succ, ih _ _ k o (by simpa using h), cnt_cons, bsel_eq]
      congr 2
      · omega
      · congr 1
        split <;> omega
theorem annL_len (P : Program) : ∀ (l : List Oper) (i c : Nat), (annL P l i c).length = l.length := by
  intro l
  induction l with
  | nil => intro i c; rfl
  | cons o l ih => intro i c; show (annL P l _ _).length + 1 = _; rw [ih]; rfl
theorem annL_mem {P : Program} {l : List Oper} {x : Ann} (h : x ∈ annL P l 0 0) : ∃ o, l[x.1]? = some o ∧ x = (x.1, cnt P l x.1, o) := by
  obtain ⟨k, hk, rfl⟩ := List.getElem_of_mem h
  rw [annL_len] at hk
  have h1 := annL_at P l 0 0 k l[k] (List.getElem?_eq_getElem hk)
  rw [List.getElem?_eq_getElem (by rw [annL_len]; exact hk)] at h1
  have h2 := Option.some.inj h1
  rw [h2]
  simp only [Nat.zero_add]
  exact ⟨l[k], List.getElem?_eq_getElem hk, rfl⟩

noncomputable def noB (P : Program) (a : List Ann) : Bool := allL a fun u => Bool.not (isB P u.2.2)
noncomputable def needC (P : Program) (ops : Array Oper) (a : List Ann) (x : Ann) (c' : Nat) : Bool :=
  Bool.or (Bool.and (noB P a) (Nat.beq c' x.2.1)) (Bool.or (anyL a fun u => bsel (isW P u.2.2) (Bool.and (Nat.ble (Nat.succ u.2.1) c') (isAnc ops ops.size u.1 x.1)) false)
    (anyL a fun u => bsel (isW P u.2.2) (Bool.and (Nat.ble c' u.2.1) (isAnc ops ops.size x.1 u.1)) false))
noncomputable def soundC (P : Program) (ops : Array Oper) (i : Nat) (o : Oper) : Bool :=
  allL (looksL P ops o) fun x => CArg.rec (motive := fun _ => Bool) (fun p => allL (idxL ops.toList 0) fun jo => bsel (dstIs jo.2 p) (Nat.ble (Nat.succ jo.1) i) true) (fun _ => true) x
noncomputable def nthS (sts : List St) : Nat → (St → Rx) → Rx :=
  List.rec (motive := fun _ => Nat → (St → Rx) → Rx) (fun _ _ => .bad) (fun s _ ih m k => Nat.rec (motive := fun _ => Rx) (k s) (fun m _ => ih m k) m) sts
theorem nthS_eq : ∀ (sts : List St) (m : Nat) (k : St → Rx), nthS sts m k = (match sts[m]? with | some s => k s | none => .bad) := by
  intro sts
  induction sts with
  | nil => intro m k; rfl
  | cons s sts ih =>
    intro m k
    cases m with
    | zero => rfl
    | succ m => show nthS sts m k = _; rw [ih]; rfl

noncomputable def chk1K {β : Type} (P : Program) (ops : Array Oper) (K : Nat) (x : Ann) (c' : Nat) (k : ChkY → β) (bad : β) : β :=
  forceN (Nat.sub K c') fun m => bsel (soundC P ops x.1 x.2.2) (Option.rec (motive := fun _ => β) bad (fun d => xgetK d (fun g => stepYK P ops x.1 x.2.2 (fun s => k fun call f as sts kk => nthS sts m fun st => s call f st as fun v _ => bsel (eqV (g f) v) kk .bad) bad) bad) x.2.2.dst) bad
def ChkAt (P : Program) (ops : Array Oper) (K : Nat) (call : CallF) (fr : Fr) (as : Pre) (sts : List St) (x : Ann) (c' : Nat) : Prop :=
  ∃ d st v st', x.2.2.dst = some d ∧ soundC P ops x.1 x.2.2 = true ∧ sts[K - c']? = some st ∧ stepD P call ops (as.getD x.1 none) x.2.2 fr st = .ok v st' ∧ fget fr (Bp.enc d) = v
theorem chk1K_eq {β : Type} (P : Program) (ops : Array Oper) (K : Nat) (x : Ann) (c' : Nat) (k : ChkY → β) (bad : β) :
    (∃ r : ChkY, (∀ call f fr as sts kk, XR f fr → AsAt P x.2.2 (as.getD x.1 none) → r call f as sts kk = .bad ∨ (r call f as sts kk = kk ∧ ChkAt P ops K call fr as sts x c')) ∧ chk1K P ops K x c' k bad = k r) ∨ chk1K P ops K x c' k bad = bad := by
  unfold chk1K
  rw [forceN_eq, bsel_eq]
  have e0 : Nat.sub K c' = K - c' := rfl
  rw [e0]
  split
  · rename_i hs
    cases hd : x.2.2.dst with
    | none => exact .inr rfl
    | some d =>
      dsimp only
      rcases xgetK_eq d (fun g => stepYK P ops x.1 x.2.2 (fun s => k fun call f as sts kk => nthS sts (K - c') fun st => s call f st as fun v _ => bsel (eqV (g f) v) kk .bad) bad) bad with ⟨hi, g, hg, e⟩ | ⟨_, e⟩
      · rcases stepYK_eq P ops x.1 x.2.2 (fun s => k fun call f as sts kk => nthS sts (K - c') fun st => s call f st as fun v _ => bsel (eqV (g f) v) kk .bad) bad with ⟨s, hst, e2⟩ | e2
        · refine .inl ⟨_, ?_, e.trans e2⟩
          intro call f fr as sts kk h ha
          try dsimp only
          rw [nthS_eq]
          cases hst2 : sts[K - c']? with
          | none => exact .inl rfl
          | some st =>
            dsimp only
            rw [hst call f fr st as _ h ha]
            cases hsd : stepD P call ops (as.getD x.1 none) x.2.2 fr st with
            | bad => exact .inl rfl
            | ok v st' =>
              show bsel (eqV (g f) v) kk .bad = .bad ∨ (bsel (eqV (g f) v) kk .bad = kk ∧ _)
              rw [bsel_eq]
              split
              · rename_i hev
                refine .inr ⟨rfl, d, st, v, st', hd, hs, hst2, hsd, ?_⟩
                rw [← h d hi, ← hg f]
                exact eqV_sound hev
              · exact .inl rfl
        · exact .inr (e.trans e2)
      · exact .inr e
  · exact .inr rfl

noncomputable def upL (K : Nat) : List Nat := Nat.rec (motive := fun _ => List Nat) [0] (fun k l => Nat.succ k :: l) K
theorem upL_mem : ∀ (K c : Nat), c ≤ K → c ∈ upL K := by
  intro K
  induction K with
  | zero => intro c h; have : c = 0 := by omega
            subst this; exact List.mem_singleton.2 rfl
  | succ K ih =>
    intro c h
    have e : upL (K + 1) = Nat.succ K :: upL K := rfl
    rw [e]
    by_cases hc : c = K + 1
    · subst hc; exact List.mem_cons_self ..
    · exact List.mem_cons_of_mem _ (ih c (by omega))
noncomputable def chkCK {β : Type} (P : Program) (ops : Array Oper) (a : List Ann) (K : Nat) (x : Ann) (l : List Nat) : (ChkY → β) → β → β :=
  List.rec (motive := fun _ => (ChkY → β) → β → β) (fun k _ => k fun _ _ _ _ kk => kk)
    (fun c' _ ih k bad => bsel (needC P ops a x c') (ih k bad) (chk1K P ops K x c' (fun s => ih (fun r => k fun call f as sts kk => s call f as sts (r call f as sts kk)) bad) bad)) l
theorem chkCK_eq {β : Type} (P : Program) (ops : Array Oper) (a : List Ann) (K : Nat) (x : Ann) : ∀ (l : List Nat) (k : ChkY → β) (bad : β),
    (∃ r : ChkY, (∀ call f fr as sts kk, XR f fr → AsAt P x.2.2 (as.getD x.1 none) → r call f as sts kk = .bad ∨ (r call f as sts kk = kk ∧ ∀ c' ∈ l, needC P ops a x c' = false → ChkAt P ops K call fr as sts x c')) ∧ chkCK P ops a K x l k bad = k r) ∨ chkCK P ops a K x l k bad = bad := by
  intro l
  induction l with
  | nil =>
    intro k bad
    refine .inl ⟨_, ?_, rfl⟩
    intro call f fr as sts kk _ _
    exact .inr ⟨rfl, fun c' h => by cases h⟩
  | cons c' l ih =>
    intro k bad
    have e0 : chkCK P ops a K x (c' :: l) k bad = bsel (needC P ops a x c') (chkCK P ops a K x l k bad) (chk1K P ops K x c' (fun s => chkCK P ops a K x l (fun r => k fun call f as sts kk => s call f as sts (r call f as sts kk)) bad) bad) := rfl
    rw [e0, bsel_eq]
    split
    · rename_i hn
      rcases ih k bad with ⟨r, hr, e⟩ | e
      · refine .inl ⟨r, ?_, e⟩
        intro call f fr as sts kk h ha
        rcases hr call f fr as sts kk h ha with hb | ⟨h1, h2⟩
        · exact .inl hb
        · refine .inr ⟨h1, fun c hc hcn => ?_⟩
          rcases List.mem_cons.1 hc with rfl | hc
          · rw [hn] at hcn; cases hcn
          · exact h2 c hc hcn
      · exact .inr e
    · rcases chk1K_eq P ops K x c' (fun s => chkCK P ops a K x l (fun r => k fun call f as sts kk => s call f as sts (r call f as sts kk)) bad) bad with ⟨s, hs, e⟩ | e
      · rcases ih (fun r => k fun call f as sts kk => s call f as sts (r call f as sts kk)) bad with ⟨r, hr, e2⟩ | e2
        · refine .inl ⟨_, ?_, e.trans e2⟩
          intro call f fr as sts kk h ha
          try dsimp only
          rcases hs call f fr as sts (r call f as sts kk) h ha with hb | ⟨h1, h2⟩
          · exact .inl hb
          · rw [h1]
            rcases hr call f fr as sts kk h ha with hb | ⟨h3, h4⟩
            · exact .inl hb
            · refine .inr ⟨h3, fun c hc hcn => ?_⟩
              rcases List.mem_cons.1 hc with rfl | hc
              · exact h2
              · exact h4 c hc hcn
        · exact .inr (e.trans e2)
      · exact .inr e
noncomputable def chksYK {β : Type} (P : Program) (ops : Array Oper) (a : List Ann) (K : Nat) (l : List Ann) : (ChkY → β) → β → β :=
  List.rec (motive := fun _ => (ChkY → β) → β → β) (fun k _ => k fun _ _ _ _ kk => kk)
    (fun x _ ih k bad => bsel (Bool.or (isB P x.2.2) (Bool.or (isW P x.2.2) (bareO P x.2.2))) (ih k bad) (chkCK P ops a K x (upL K) (fun s => ih (fun r => k fun call f as sts kk => s call f as sts (r call f as sts kk)) bad) bad)) l
theorem chksYK_eq {β : Type} (P : Program) (ops : Array Oper) (a : List Ann) (K : Nat) : ∀ (l : List Ann) (k : ChkY → β) (bad : β),
    (∃ r : ChkY, (∀ call f fr as sts kk, XR f fr → (∀ x ∈ l, AsAt P x.2.2 (as.getD x.1 none)) → r call f as sts kk = .bad ∨ (r call f as sts kk = kk ∧ ∀ x ∈ l, isB P x.2.2 = false → isW P x.2.2 = false → bareO P x.2.2 = false → ∀ c' ≤ K, needC P ops a x c' = false → ChkAt P ops K call fr as sts x c')) ∧ chksYK P ops a K l k bad = k r) ∨ chksYK P ops a K l k bad = bad := by
  intro l
  induction l with
  | nil =>
    intro k bad
    refine .inl ⟨_, ?_, rfl⟩
    intro call f fr as sts kk _ _
    exact .inr ⟨rfl, fun x h => by cases h⟩
  | cons x l ih =>
    intro k bad
    have e0 : chksYK P ops a K (x :: l) k bad = bsel (Bool.or (isB P x.2.2) (Bool.or (isW P x.2.2) (bareO P x.2.2))) (chksYK P ops a K l k bad) (chkCK P ops a K x (upL K) (fun s => chksYK P ops a K l (fun r => k fun call f as sts kk => s call f as sts (r call f as sts kk)) bad) bad) := rfl
    rw [e0, bsel_eq]
    split
    · rename_i hn
      rcases ih k bad with ⟨r, hr, e⟩ | e
      · refine .inl ⟨r, ?_, e⟩
        intro call f fr as sts kk h ha
        rcases hr call f fr as sts kk h (fun x hx => ha x (List.mem_cons_of_mem _ hx)) with hb | ⟨h1, h2⟩
        · exact .inl hb
        · refine .inr ⟨h1, fun y hy hB hw hbare => ?_⟩
          rcases List.mem_cons.1 hy with rfl | hy
          · rw [hB, hw, hbare] at hn; cases hn
          · exact h2 y hy hB hw hbare
      · exact .inr e
    · rcases chkCK_eq P ops a K x (upL K) (fun s => chksYK P ops a K l (fun r => k fun call f as sts kk => s call f as sts (r call f as sts kk)) bad) bad with ⟨s, hs, e⟩ | e
      · rcases ih (fun r => k fun call f as sts kk => s call f as sts (r call f as sts kk)) bad with ⟨r, hr, e2⟩ | e2
        · refine .inl ⟨_, ?_, e.trans e2⟩
          intro call f fr as sts kk h ha
          try dsimp only
          rcases hs call f fr as sts (r call f as sts kk) h (ha x (List.mem_cons_self ..)) with hb | ⟨h1, h2⟩
          · exact .inl hb
          · rw [h1]
            rcases hr call f fr as sts kk h (fun x hx => ha x (List.mem_cons_of_mem _ hx)) with hb | ⟨h3, h4⟩
            · exact .inl hb
            · refine .inr ⟨h3, fun y hy hB hw hbare c hc hcn => ?_⟩
              rcases List.mem_cons.1 hy with rfl | hy
              · exact h2 c (upL_mem K c hc) hcn
              · exact h4 y hy hB hw hbare c hc hcn
        · exact .inr (e.trans e2)
      · exact .inr e

theorem stepD_bare {P : Program} {call : CallF} {ops : Array Oper} {o : Oper} {ab : Option Bp} {fr : Fr} {st s1 : St} {v : CV} (hb : bareO P o = true) (hbl : lateF P o = none) (h : stepD P call ops ab o fr st = .ok v s1) (s : St) : ∃ s2, stepD P call ops ab o fr s = .ok v s2 := by
  unfold bareO at hb
  unfold stepD at h ⊢
  cases hn : newF P o with
  | some tz => rw [hn] at hb; cases hb
  | none =>
    rw [hn] at hb h
    dsimp only at hb h
    cases ab with
    | some b =>
      dsimp only at h ⊢
      cases hl : lateF P o with
      | none => rw [hl] at h; cases h
      | some x => rw [hl] at hbl; cases hbl
    | none =>
      dsimp only at h ⊢
      rw [stepC_eq] at h ⊢
      cases hw : wantedC ops fr o with
      | none => rw [hw] at h; cases h
      | some b =>
        rw [hw] at h
        cases b with
        | false => cases h; exact ⟨_, rfl⟩
        | true =>
          dsimp only at h ⊢
          cases hop : compOpT P o.op with
          | none => rw [hop] at h; cases h
          | some op =>
            rw [hop] at h hb
            exact (runOp_bare hb).eq _ _ h

/- late blocks -/
noncomputable def blkE (x y : Option Blk) : Bool :=
  match x, y with
  | none, none => true
  | some (.cells s t g), some (.cells s' t' g') => Bool.and (segE s s') (Bool.and (Nat.beq t t') (boolEq g g'))
  | _, _ => false
theorem blkE_sound {x y : Option Blk} (h : blkE x y = true) : x = y := by
  unfold blkE at h
  split at h
  · rfl
  · simp only [Bool.and_eq_true, Nat.beq_eq, boolEq_iff] at h
    rw [segE_sound h.1, h.2.1, h.2.2]
  · cases h
noncomputable def late1K {β : Type} (K j c : Nat) (ahead : Bool) (k : ChkY → β) : β :=
  forceN (Nat.sub K c) fun m => forceN (Nat.pred m) fun m' => bsel ahead
    (k fun _ _ as sts kk => Option.rec (motive := fun _ => Rx) .bad (fun b => nthS sts m fun st => Option.rec (motive := fun _ => Rx) kk (fun _ => .bad) (st.mem.get b)) (nthO as j))
    (k fun _ _ as sts kk => Option.rec (motive := fun _ => Rx) .bad (fun b => nthS sts m fun st => nthS sts m' fun st' => bsel (blkE (st'.mem.get b) (st.mem.get b)) kk .bad) (nthO as j))
def LateC (K : Nat) (as : Pre) (sts : List St) (j c : Nat) (ahead : Bool) : Prop := ∃ b st, as.getD j none = some b ∧ sts[K - c]? = some st ∧ (if ahead then st.mem.get b = none else ∃ st', sts[K - c - 1]? = some st' ∧ st'.mem.get b = st.mem.get b)
theorem late1K_eq {β : Type} (K j c : Nat) (ahead : Bool) (k : ChkY → β) : ∃ r : ChkY, (∀ call f as sts kk, r call f as sts kk = .bad ∨ (r call f as sts kk = kk ∧ LateC K as sts j c ahead)) ∧ late1K K j c ahead k = k r := by
  unfold late1K
  rw [forceN_eq, forceN_eq, bsel_eq]
  have e0 : Nat.sub K c = K - c := rfl
  have e1 : Nat.pred (K - c) = K - c - 1 := rfl
  rw [e0, e1]
  cases ahead with
  | true =>
    rw [if_pos rfl]
    refine ⟨_, ?_, rfl⟩
    intro call f as sts kk
    try dsimp only
    rw [nthO_eq]
    cases hb : as.getD j none with
    | none => exact .inl rfl
    | some b =>
      dsimp only
      rw [nthS_eq]
      cases hst : sts[K - c]? with
      | none => exact .inl rfl
      | some st =>
        dsimp only
        cases hg : st.mem.get b with
        | some x => exact .inl rfl
        | none => exact .inr ⟨rfl, b, st, hb, hst, by rw [if_pos rfl]; exact hg⟩
  | false =>
    rw [if_neg (by simp)]
    refine ⟨_, ?_, rfl⟩
    intro call f as sts kk
    try dsimp only
    rw [nthO_eq]
    cases hb : as.getD j none with
    | none => exact .inl rfl
    | some b =>
      dsimp only
      rw [nthS_eq]
      cases hst : sts[K - c]? with
      | none => exact .inl rfl
      | some st =>
        dsimp only
        rw [nthS_eq]
        cases hst' : sts[K - c - 1]? with
        | none => exact .inl rfl
        | some st' =>
          dsimp only
          rw [bsel_eq]
          split
          · rename_i hh
            exact .inr ⟨rfl, b, st, hb, hst, by rw [if_neg (by simp)]; exact ⟨st', hst', blkE_sound hh⟩⟩
          · exact .inl rfl
noncomputable def lateSkip (P : Program) (ops : Array Oper) (x u : Ann) : Bool := Bool.or (Bool.not (isW P u.2.2)) (Bool.or (isAnc ops ops.size u.1 x.1) (isAnc ops ops.size x.1 u.1))
noncomputable def lateCK {β : Type} (P : Program) (ops : Array Oper) (K : Nat) (x : Ann) (l : List Ann) : (ChkY → β) → β :=
  List.rec (motive := fun _ => (ChkY → β) → β) (fun k => k fun _ _ _ _ kk => kk)
    (fun u _ ih k => bsel (lateSkip P ops x u) (ih k) (late1K K x.1 u.2.1 (Nat.ble (Nat.succ u.1) x.1) fun s => ih fun r => k fun call f as sts kk => s call f as sts (r call f as sts kk))) l
theorem lateCK_eq {β : Type} (P : Program) (ops : Array Oper) (K : Nat) (x : Ann) : ∀ (l : List Ann) (k : ChkY → β),
    ∃ r : ChkY, (∀ call f as sts kk, r call f as sts kk = .bad ∨ (r call f as sts kk = kk ∧ ∀ u ∈ l, lateSkip P ops x u = false → LateC K as sts x.1 u.2.1 (Nat.ble (Nat.succ u.1) x.1))) ∧ lateCK P ops K x l k = k r := by
  intro l
  induction l with
  | nil => intro k; refine ⟨_, ?_, rfl⟩; intro call f as sts kk; exact .inr ⟨rfl, fun u h => by cases h⟩
  | cons u l ih =>
    intro k
    have e0 : lateCK P ops K x (u :: l) k = bsel (lateSkip P ops x u) (lateCK P ops K x l k) (late1K K x.1 u.2.1 (Nat.ble (Nat.succ u.1) x.1) fun s => lateCK P ops K x l fun r => k fun call f as sts kk => s call f as sts (r call f as sts kk)) := rfl
    rw [e0, bsel_eq]
    split
    · rename_i hs
      obtain ⟨r, hr, e⟩ := ih k
      refine ⟨r, ?_, e⟩
      intro call f as sts kk
      rcases hr call f as sts kk with hb | ⟨h1, h2⟩
      · exact .inl hb
      · refine .inr ⟨h1, fun y hy hsk => ?_⟩
        rcases List.mem_cons.1 hy with rfl | hy
        · rw [hs] at hsk; cases hsk
        · exact h2 y hy hsk
    · obtain ⟨s, hs, e⟩ := late1K_eq K x.1 u.2.1 (Nat.ble (Nat.succ u.1) x.1) (fun s => lateCK P ops K x l fun r => k fun call f as sts kk => s call f as sts (r call f as sts kk))
      obtain ⟨r, hr, e2⟩ := ih (fun r => k fun call f as sts kk => s call f as sts (r call f as sts kk))
      refine ⟨_, ?_, e.trans e2⟩
      intro call f as sts kk
      try dsimp only
      rcases hs call f as sts (r call f as sts kk) with hb | ⟨h1, h2⟩
      · exact .inl hb
      · rw [h1]
        rcases hr call f as sts kk with hb | ⟨h3, h4⟩
        · exact .inl hb
        · refine .inr ⟨h3, fun y hy hsk => ?_⟩
          rcases List.mem_cons.1 hy with rfl | hy
          · exact h2
          · exact h4 y hy hsk
noncomputable def latesYK {β : Type} (P : Program) (ops : Array Oper) (a : List Ann) (K : Nat) (l : List Ann) : (ChkY → β) → β :=
  List.rec (motive := fun _ => (ChkY → β) → β) (fun k => k fun _ _ _ _ kk => kk)
    (fun x _ ih k => bsel (isB P x.2.2) (lateCK P ops K x a fun s => ih fun r => k fun call f as sts kk => s call f as sts (r call f as sts kk)) (ih k)) l
theorem latesYK_eq {β : Type} (P : Program) (ops : Array Oper) (a : List Ann) (K : Nat) : ∀ (l : List Ann) (k : ChkY → β),
    ∃ r : ChkY, (∀ call f as sts kk, r call f as sts kk = .bad ∨ (r call f as sts kk = kk ∧ ∀ x ∈ l, isB P x.2.2 = true → ∀ u ∈ a, lateSkip P ops x u = false → LateC K as sts x.1 u.2.1 (Nat.ble (Nat.succ u.1) x.1))) ∧ latesYK P ops a K l k = k r := by
  intro l
  induction l with
  | nil => intro k; refine ⟨_, ?_, rfl⟩; intro call f as sts kk; exact .inr ⟨rfl, fun u h => by cases h⟩
  | cons x l ih =>
    intro k
    have e0 : latesYK P ops a K (x :: l) k = bsel (isB P x.2.2) (lateCK P ops K x a fun s => latesYK P ops a K l fun r => k fun call f as sts kk => s call f as sts (r call f as sts kk)) (latesYK P ops a K l k) := rfl
    rw [e0, bsel_eq]
    split
    · rename_i hB
      obtain ⟨s, hs, e⟩ := lateCK_eq P ops K x a (fun s => latesYK P ops a K l fun r => k fun call f as sts kk => s call f as sts (r call f as sts kk))
      obtain ⟨r, hr, e2⟩ := ih (fun r => k fun call f as sts kk => s call f as sts (r call f as sts kk))
      refine ⟨_, ?_, e.trans e2⟩
      intro call f as sts kk
      try dsimp only
      rcases hs call f as sts (r call f as sts kk) with hb | ⟨h1, h2⟩
      · exact .inl hb
      · rw [h1]
        rcases hr call f as sts kk with hb | ⟨h3, h4⟩
        · exact .inl hb
        · refine .inr ⟨h3, fun y hy hyB u hu hsk => ?_⟩
          rcases List.mem_cons.1 hy with rfl | hy
          · exact h2 u hu hsk
          · exact h4 y hy hyB u hu hsk
    · rename_i hB
      obtain ⟨r, hr, e⟩ := ih k
      refine ⟨r, ?_, e⟩
      intro call f as sts kk
      rcases hr call f as sts kk with hb | ⟨h1, h2⟩
      · exact .inl hb
      · refine .inr ⟨h1, fun y hy hyB u hu hsk => ?_⟩
        rcases List.mem_cons.1 hy with rfl | hy
        · exact absurd hyB hB
        · exact h2 y hy hyB u hu hsk

/-- No late block: the memory stays between writers. -/
theorem gap_eq {P : Program} {call : CallF} {n : Nat} {ops : Array Oper} {as : List (Option Bp)} {trs : List TR} {ch : List St} {stA st0 stf : St} {fr0 frf : Fr} (hpre : PreOK P ops.toList stA as st0) (htr : TrOK (ops.toList.zip as) P call n ops 0 0 fr0 st0 trs ch frf stf) (hno : ∀ (j : Nat) (o : Oper), ops.toList[j]? = some o → isB P o = false) {k : Nat} :
    ∀ {k' : Nat}, k ≤ k' → k' ≤ ops.toList.length → (∀ (j : Nat) (o : Oper), k ≤ j → j < k' → ops.toList[j]? = some o → isW P o = false) → preS trs stf k' = preS trs stf k := by
  intro k'
  induction k' with
  | zero => intro h _ _; have : k = 0 := by omega
            subst this; rfl
  | succ k' ih =>
    intro h hl hw
    by_cases hk : k = k' + 1
    · subst hk; rfl
    have i1 := ih (by omega) (by omega) (fun j o h1 h2 => hw j o h1 (by omega))
    have ho : ops.toList[k']? = some ops.toList[k'] := List.getElem?_eq_getElem (by omega)
    generalize ops.toList[k'] = o at ho
    obtain ⟨t, ab, h1, h2, h3, h4, h5, h6, h7, h8, h9, h10, h11⟩ := op_at hpre htr ho
    rw [← htr.nxt k' t h1, ← i1, stepD_still (hw k' o (by omega) (by omega) ho) (hno k' o ho) h10]
    unfold preS; rw [h1]

noncomputable def drawYK {β : Type} (P : Program) (n : Nat) (ops : Array Oper) (k : CodeX → β) : β :=
  bsel (statC P ops) (preXK P ops.toList fun pre => opsYK P n ops ops.toList 0 fun r => forceN (cntL P ops.toList) fun K => latesYK P ops (annL P ops.toList 0 0) K (annL P ops.toList 0 0) fun lt => chksYK P ops (annL P ops.toList 0 0) K (annL P ops.toList 0 0)
    (fun ch => k fun call f st => pre st fun as st1 => r call f st1 as [] fun f2 st2 sts => lt call f2 as (st2 :: sts) (ch call f2 as (st2 :: sts) (.norm f2 st2))) (k fun _ _ _ => .bad)) (k fun _ _ _ => .bad)
theorem drawYK_eq {β : Type} (P : Program) (n : Nat) (ops : Array Oper) (k : CodeX → β) :
    ∃ x : CodeX, (∀ call f fr st, XR f fr → x call f st = .bad ∨ ∃ f' fr' st', x call f st = .norm f' st' ∧ XR f' fr' ∧ runDraw2 P call n ops fr st = .norm fr' st') ∧ drawYK P n ops k = k x := by
  have hbad : ∃ x : CodeX, (∀ call f fr st, XR f fr → x call f st = .bad ∨ ∃ f' fr' st', x call f st = .norm f' st' ∧ XR f' fr' ∧ runDraw2 P call n ops fr st = .norm fr' st') ∧ (k fun _ _ _ => .bad) = k x :=
    ⟨_, fun _ _ _ _ _ => .inl rfl, rfl⟩
  unfold drawYK
  rw [bsel_eq]
  split
  · rename_i hs
    have hst := statC_some hs
    obtain ⟨pre, hpre, e1⟩ := preXK_eq P ops.toList (fun pre => opsYK P n ops ops.toList 0 fun r => forceN (cntL P ops.toList) fun K => latesYK P ops (annL P ops.toList 0 0) K (annL P ops.toList 0 0) fun lt => chksYK P ops (annL P ops.toList 0 0) K (annL P ops.toList 0 0)
      (fun ch => k fun call f st => pre st fun as st1 => r call f st1 as [] fun f2 st2 sts => lt call f2 as (st2 :: sts) (ch call f2 as (st2 :: sts) (.norm f2 st2))) (k fun _ _ _ => .bad))
    obtain ⟨r, hr, e2⟩ := opsYK_eq P n ops ops.toList 0 (fun r => forceN (cntL P ops.toList) fun K => latesYK P ops (annL P ops.toList 0 0) K (annL P ops.toList 0 0) fun lt => chksYK P ops (annL P ops.toList 0 0) K (annL P ops.toList 0 0)
      (fun ch => k fun call f st => pre st fun as st1 => r call f st1 as [] fun f2 st2 sts => lt call f2 as (st2 :: sts) (ch call f2 as (st2 :: sts) (.norm f2 st2))) (k fun _ _ _ => .bad))
    rw [forceN_eq] at e2
    obtain ⟨lt, hlt, e4⟩ := latesYK_eq P ops (annL P ops.toList 0 0) (cntL P ops.toList) (annL P ops.toList 0 0) (fun lt => chksYK P ops (annL P ops.toList 0 0) (cntL P ops.toList) (annL P ops.toList 0 0)
      (fun ch => k fun call f st => pre st fun as st1 => r call f st1 as [] fun f2 st2 sts => lt call f2 as (st2 :: sts) (ch call f2 as (st2 :: sts) (.norm f2 st2))) (k fun _ _ _ => .bad))
    rw [e1, e2, e4]
    rcases chksYK_eq P ops (annL P ops.toList 0 0) (cntL P ops.toList) (annL P ops.toList 0 0) (fun ch => k fun call f st => pre st fun as st1 => r call f st1 as [] fun f2 st2 sts => lt call f2 as (st2 :: sts) (ch call f2 as (st2 :: sts) (.norm f2 st2))) (k fun _ _ _ => .bad) with ⟨ch, hch, e3⟩ | e3
    · refine ⟨_, ?_, e3⟩
      intro call f fr st h
      try dsimp only
      rw [hpre]
      obtain ⟨as, st1, hok, hk⟩ := preA_ok (P := P) ops.toList st
      rw [hk]
      have hasAt : ∀ j o, ops.toList[j]? = some o → AsAt P o (as.getD j none) ∧ as[j]? = some (as.getD j none) := by
        intro j o hj
        have hjl : j < as.length := by rw [hok.len]; exact (List.getElem?_eq_some_iff.1 hj).1
        have hg : as[j]? = some (as.getD j none) := by
          rw [List.getD_eq_getElem?_getD, List.getElem?_eq_getElem hjl]; rfl
        refine ⟨⟨fun hn hB => ?_, fun hn => ?_⟩, hg⟩
        · have := hok.olds j o hj hn hB
          rw [hg] at this; exact Option.some.inj this
        · obtain ⟨b, hb⟩ := hok.news j o hj hn
          rw [hg] at hb; exact ⟨b, Option.some.inj hb⟩
      rcases hr call f fr st1 as as [] (fun f2 st2 sts => lt call f2 as (st2 :: sts) (ch call f2 as (st2 :: sts) (.norm f2 st2))) 0 h rfl (by simpa using hasAt) with hb | ⟨trs, chn, frf, stf, f', h1, h2, h3⟩
      · exact .inl hb
      · rw [h3]
        have e5 : stf :: (chn.reverse ++ []) = (chn ++ [stf]).reverse := by simp
        rw [e5]
        rcases hlt call f' as (chn ++ [stf]).reverse (ch call f' as (chn ++ [stf]).reverse (.norm f' stf)) with hb | ⟨l1, l2⟩
        · exact .inl hb
        rw [l1]
        rcases hch call f' frf as (chn ++ [stf]).reverse (.norm f' stf) h2 (fun x hx => by
          obtain ⟨o, ho, e⟩ := annL_mem hx
          have := (hasAt x.1 o ho).1
          rw [e]; exact this) with hb | ⟨h4, h5⟩
        · exact .inl hb
        · refine .inr ⟨f', frf, stf, h4, h2, ?_⟩
          have hmap : (ops.toList.zip as).map (·.1) = ops.toList := List.map_fst_zip (by rw [hok.len]; exact Nat.le_refl _)
          have hzl : (ops.toList.zip as).length = ops.toList.length := by rw [List.length_zip, hok.len]; simp
          have htr := trace_ok h1 (by rw [hmap]; exact hst.s3)
          have hfin := htr.fin
          rw [hmap] at hfin
          have hchl : chn.length = cntL P ops.toList := by rw [chl_eq hok htr, cntL_eq]
          have hrev : ∀ c s, (chn ++ [stf])[c]? = some s → (chn ++ [stf]).reverse[cntL P ops.toList - c]? = some s := by
            intro c s hc
            have hcl := (List.getElem?_eq_some_iff.1 hc).1
            rw [List.length_append, List.length_singleton, hchl] at hcl
            rw [List.getElem?_reverse (by rw [List.length_append, List.length_singleton, hchl]; omega), List.length_append, List.length_singleton, hchl, show cntL P ops.toList + 1 - 1 - (cntL P ops.toList - c) = c by omega]
            exact hc
          have hmemA : ∀ i o, ops.toList[i]? = some o → (i, cnt P ops.toList i, o) ∈ annL P ops.toList 0 0 := by
            intro i o hoi
            have := annL_at P ops.toList 0 0 i o hoi
            simp only [Nat.zero_add] at this
            exact List.mem_of_getElem? this
          unfold runDraw2
          rw [hk, h1]
          dsimp only
          rw [if_pos]
          refine ⟨hst, ?_, ?_⟩
          · intro i t hti htw htB c s hc
            -- the operation at that place
            have hoi := tr_at hok htr hti
            have hil := (List.getElem?_eq_some_iff.1 hoi).1
            obtain ⟨t', ab, g1, hab, g2, g3, g4, g5, g6, g7, g8, g10, g11⟩ := op_at hok htr hoi
            rw [hti] at g1; cases g1
            have hab' : as.getD i none = ab := by
              have := (hasAt i t.o hoi).2
              rw [hab] at this; exact (Option.some.inj this).symm
            have hcK : c ≤ cntL P ops.toList := by
              have := (List.getElem?_eq_some_iff.1 hc).1
              rw [List.length_append, List.length_singleton, hchl] at this
              omega
            have hmem := hmemA i t.o hoi
            have hu : ∀ u ∈ annL P ops.toList 0 0, isW P u.2.2 = true → ∃ tu ∈ trs, tu.w = true ∧ tu.c = u.2.1 ∧ tu.i = u.1 := by
              intro u hu huw
              obtain ⟨ou, ho, e⟩ := annL_mem hu
              obtain ⟨tu, _, k1, _, k2, k3, k4, k5, k6, _⟩ := op_at hok htr ho
              have e2 : u.2.2 = ou := by rw [e]
              have e3 : u.2.1 = cnt P ops.toList u.1 := by rw [e]
              exact ⟨tu, List.mem_of_getElem? k1, by rw [k5, ← e2]; exact huw, by rw [k6, e3], k2⟩
            cases hbare : bareO P t.o with
            | true =>
              refine .inr (.inr ?_)
              rw [g3]
              exact stepD_bare hbare (isB_none htB) g10 s
            | false =>
              cases hnd : needC P ops (annL P ops.toList 0 0) (i, cnt P ops.toList i, t.o) c with
              | true =>
                unfold needC at hnd
                simp only [Bool.or_eq_true, Bool.and_eq_true, Nat.beq_eq, anyL_iff, bsel_eq] at hnd
                rcases hnd with ⟨hnb, hnd⟩ | ⟨u, hu1, hu2⟩ | ⟨u, hu1, hu2⟩
                · -- no late blocks: the memory is the one that was there
                  have hno : ∀ (j : Nat) (o : Oper), ops.toList[j]? = some o → isB P o = false := fun j o hj => by
                    unfold noB at hnb
                    rw [allL_iff] at hnb
                    have := hnb _ (hmemA j o hj)
                    simpa using this
                  obtain ⟨k2, n1, n2, n3, n4, n5, n6⟩ := next_at hok htr (ops.toList.length - i) i (by omega)
                  have e6 := gap_eq hok htr hno n1 n2 n3
                  have e7 : preS trs stf i = t.s := by unfold preS; rw [hti]
                  rw [hnd, n5] at hc
                  cases hc
                  refine .inr (.inr ⟨t.s1, ?_⟩)
                  rw [e6, e7, g3]; exact g10
                · split at hu2
                  · rename_i huw
                    simp only [Bool.and_eq_true, Nat.ble_eq] at hu2
                    obtain ⟨tu, k1, k2, k3, k4⟩ := hu u hu1 huw
                    exact .inl ⟨tu, k1, k2, by rw [k3]; exact hu2.1, by rw [k4, g2]; exact hu2.2⟩
                  · cases hu2
                · split at hu2
                  · rename_i huw
                    simp only [Bool.and_eq_true, Nat.ble_eq] at hu2
                    obtain ⟨tu, k1, k2, k3, k4⟩ := hu u hu1 huw
                    exact .inr (.inl ⟨tu, k1, k2, by rw [k3]; exact hu2.1, by rw [k4, g2]; exact hu2.2⟩)
                  · cases hu2
              | false =>
                refine .inr (.inr ?_)
                obtain ⟨d, s', v, s2, k1, k2, k3, k4, k5⟩ := h5 _ hmem htB htw hbare c hcK hnd
                dsimp only at k1 k2 k4
                have hss : s' = s := by
                  rw [hrev c s hc] at k3
                  exact (Option.some.inj k3).symm
                subst hss
                have hv : v = t.v := by rw [← k5]; exact hfin.1 i t.o d t (by rw [hzl]; exact hil) hoi k1 hti
                have hlook : ∀ x ∈ looksL P ops t.o, ev t.fr x = ev frf x := by
                  intro x hx
                  cases x with
                  | const v => rfl
                  | tmp p =>
                    unfold soundC at k2
                    rw [allL_iff] at k2
                    have k6 := k2 _ hx
                    dsimp only at k6
                    rw [allL_iff] at k6
                    have k7 : ∀ j oj d', ops.toList[j]? = some oj → oj.dst = some d' → Bp.enc d' = p → j < i := by
                      intro j oj d' hj hd' hp
                      have := k6 (j, oj) (by have := idxL_mem (i := 0) hj; simpa using this)
                      dsimp only at this
                      have hds : dstIs oj p = true := by unfold dstIs; rw [hd']; exact bpEq_iff.2 hp
                      rw [hds, bsel_eq, if_pos rfl, Nat.ble_eq] at this
                      exact this
                    show fget t.fr p = fget frf p
                    by_cases hd : ∃ (j : Nat) (oj : Oper) (d' : Tmp), ops.toList[j]? = some oj ∧ oj.dst = some d' ∧ Bp.enc d' = p
                    · obtain ⟨j, oj, d', m1, m2, m3⟩ := hd
                      have hji := k7 j oj d' m1 m2 m3
                      obtain ⟨tj, _, m4, _⟩ := op_at hok htr m1
                      subst m3
                      rw [g8.1 j oj d' tj hji m1 m2 m4, hfin.1 j oj d' tj (by rw [hzl]; exact (List.getElem?_eq_some_iff.1 m1).1) m1 m2 m4]
                    · rw [g8.2, hfin.2]
                      · exact fun j o d _ m1 m2 e => hd ⟨j, o, d, m1, m2, e⟩
                      · exact fun j o d _ m1 m2 e => hd ⟨j, o, d, m1, m2, e⟩
                rw [g3, stepD_congr hlook, ← hab', k4, hv]
                exact ⟨_, rfl⟩
          · intro j tj b hj hjB hjb d td hd hdW a1 a2
            have hoj := tr_at hok htr hj
            have hod := tr_at hok htr hd
            obtain ⟨tj', _, m1, _, m2, _, m3, _, m4, _⟩ := op_at hok htr hoj
            rw [hj] at m1; cases m1
            obtain ⟨td', _, p1, _, p2, _, p3, _, p4, _⟩ := op_at hok htr hod
            rw [hd] at p1; cases p1
            have hsk : lateSkip P ops (j, cnt P ops.toList j, tj.o) (d, cnt P ops.toList d, td.o) = false := by
              unfold lateSkip
              dsimp only
              rw [hdW, a1, a2]; rfl
            obtain ⟨b', st', q1, q2, q3⟩ := l2 _ (hmemA j tj.o hoj) hjB _ (hmemA d td.o hod) hsk
            dsimp only at q1 q2 q3
            have hbb : b' = b := by
              have := (hasAt j tj.o hoj).2
              rw [hjb, q1] at this
              exact (Option.some.inj (Option.some.inj this)).symm
            subst hbb
            constructor
            · intro hlt s hs
              rw [p4] at hs
              rw [hrev _ s hs] at q2
              cases q2
              rw [if_pos (by rw [Nat.ble_eq]; exact hlt)] at q3
              exact q3
            · intro hlt s s' hs hs'
              rw [p4] at hs hs'
              rw [hrev _ s hs] at q2
              cases q2
              rw [if_neg (by rw [Nat.ble_eq]; omega)] at q3
              obtain ⟨st2, r1, r2⟩ := q3
              have := hrev _ s' hs'
              rw [show cntL P ops.toList - (cnt P ops.toList d + 1) = cntL P ops.toList - cnt P ops.toList d - 1 by omega, r1] at this
              cases this
              exact r2
    · rw [e3]; exact hbad
  · exact hbad
end Sim

/- Sim, part 33d: code as closures. -/
namespace Sim
open Go

def RxR (r : Rx) (s : Rs) : Prop :=
  match r with
  | .bad => True
  | .norm f st => ∃ fr, s = .norm fr st ∧ XR f fr
  | .exit id f st => ∃ fr, s = .exit id fr st ∧ XR f fr
  | .ret f st => ∃ fr, s = .ret fr st ∧ XR f fr
noncomputable def thenX (r : Rx) (k : Fx → St → Rx) : Rx :=
  Rx.rec (motive := fun _ => (Fx → St → Rx) → Rx) (fun f st k => k f st) (fun id f st _ => .exit id f st) (fun f st _ => .ret f st) (fun _ => .bad) r k
noncomputable def inBlockX (id : Nat) (r : Rx) : Rx :=
  Rx.rec (motive := fun _ => Nat → Rx) (fun f st _ => .norm f st) (fun i f st id => bsel (Nat.beq i id) (.norm f st) (.exit i f st)) (fun f st _ => .ret f st) (fun _ => .bad) r id
noncomputable def loopX (body : Fx → St → Rx) (fuel : Nat) (f : Fx) (st : St) : Rx :=
  Nat.rec (motive := fun _ => (Fx → St → Rx) → Fx → St → Rx) (fun _ _ _ => .bad) (fun _ ih body f st => thenX (body f st) (ih body)) fuel body f st
theorem RxR.then {r : Rx} {s : Rs} {k : Fx → St → Rx} {g : Fr → St → Rs} (h : RxR r s) (hk : ∀ f fr st, XR f fr → RxR (k f st) (g fr st)) : RxR (thenX r k) (thenC s g) := by
  cases r with
  | bad => trivial
  | norm f st => obtain ⟨fr, rfl, hx⟩ := h; exact hk f fr st hx
  | exit id f st => obtain ⟨fr, rfl, hx⟩ := h; exact ⟨fr, rfl, hx⟩
  | ret f st => obtain ⟨fr, rfl, hx⟩ := h; exact ⟨fr, rfl, hx⟩
theorem RxR.block {r : Rx} {s : Rs} (id : Nat) (h : RxR r s) : RxR (inBlockX id r) (inBlockC id s) := by
  cases r with
  | bad => trivial
  | norm f st => obtain ⟨fr, rfl, hx⟩ := h; exact ⟨fr, rfl, hx⟩
  | exit i f st =>
    obtain ⟨fr, rfl, hx⟩ := h
    show RxR (bsel (Nat.beq i id) (.norm f st) (.exit i f st)) (bsel (Nat.beq i id) (.norm fr st) (.exit i fr st))
    cases Nat.beq i id
    · exact ⟨fr, rfl, hx⟩
    · exact ⟨fr, rfl, hx⟩
  | ret f st => obtain ⟨fr, rfl, hx⟩ := h; exact ⟨fr, rfl, hx⟩
theorem RxR.loop {x : Fx → St → Rx} {g : Fr → St → Rs} (hk : ∀ f fr st, XR f fr → RxR (x f st) (g fr st)) : ∀ (fuel : Nat) (f : Fx) (fr : Fr) (st : St), XR f fr → RxR (loopX x fuel f st) (loopC g fuel fr st) := by
  intro fuel
  induction fuel with
  | zero => intro f fr st _; trivial
  | succ fuel ih => intro f fr st h; exact RxR.then (hk f fr st h) ih

def CodeOK (P : Program) (n : Nat) (c : Code) (x : CodeX) : Prop := ∀ call f fr st, XR f fr → RxR (x call f st) (exec P call (runDraw2 P) n c fr st)
noncomputable def codeXK {β : Type} (P : Program) (n : Nat) (c : Code) : (CodeX → β) → β :=
  Code.rec (motive := fun _ => (CodeX → β) → β)
    (fun k => k fun _ f st => .norm f st)
    (fun _ ops draw k => bsel draw (drawYK P n ops k) (opsXK P n ops ops.toList fun s => k fun call f st => s call f st fun f st => .norm f st))
    (fun _ _ x y k => x fun x => y fun y => k fun call f st => thenX (x call f st) fun f st => y call f st)
    (fun c _ _ x y k => Option.rec (motive := fun _ => β) (k fun _ _ _ => .bad) (fun c => argK c (fun g => x fun x => y fun y => k fun call f st => onBx (g f) (x call f st) (y call f st)) (k fun _ _ _ => .bad)) (cArg c))
    (fun id _ x k => x fun x => k fun call f st => inBlockX id (x call f st))
    (fun _ x k => x fun x => k fun call f st => loopX (x call) 1000000 f st)
    (fun _ _ _ _ _ _ k => k fun _ _ _ => .bad)
    (fun id k => k fun _ f st => .exit id f st)
    (fun _ x k => x k)
    (fun _ k => k fun _ f st => .norm f st)
    (fun _ k => k fun _ _ _ => .bad)
    (fun k => k fun _ f st => .ret f st)
    (fun _ k => k fun _ _ _ => .bad) c
theorem codeXK_eq {β : Type} (P : Program) (n : Nat) : ∀ (c : Code) (k : CodeX → β), ∃ x, CodeOK P n c x ∧ codeXK P n c k = k x := by
  intro c
  induction c with
  | skip => intro k; exact (by refine ⟨_, ?_, rfl⟩; intro call f fr st h; exact ⟨fr, rfl, h⟩)
  | region id ops draw =>
    intro k
    have e0 : codeXK P n (.region id ops draw) k = bsel draw (drawYK P n ops k) (opsXK P n ops ops.toList fun s => k fun call f st => s call f st fun f st => .norm f st) := rfl
    rw [e0]
    cases draw with
    | true =>
      obtain ⟨x, hx, e⟩ := drawYK_eq P n ops k
      refine ⟨x, ?_, e⟩
      intro call f fr st h
      rcases hx call f fr st h with h1 | ⟨f', fr', st', h1, h2, h3⟩
      · rw [h1]; trivial
      · rw [h1]; exact ⟨fr', h3, h2⟩
    | false =>
      obtain ⟨s, hs, e⟩ := opsXK_eq P n ops ops.toList (fun s => k fun call f st => s call f st fun f st => .norm f st)
      refine ⟨_, ?_, e⟩
      intro call f fr st h
      try dsimp only
      rcases hs call f fr st (fun f st => .norm f st) h with h1 | ⟨f', fr', st', h1, h2, h3⟩
      · rw [h1]; trivial
      · rw [h3]
        exact ⟨fr', h1, h2⟩
  | seq a b ha hb =>
    intro k
    obtain ⟨x, hx, e1⟩ := ha (fun x => codeXK P n b fun y => k fun call f st => thenX (x call f st) fun f st => y call f st)
    obtain ⟨y, hy, e2⟩ := hb (fun y => k fun call f st => thenX (x call f st) fun f st => y call f st)
    refine ⟨_, ?_, e1.trans e2⟩; intro call f fr st h; exact RxR.then (hx call f fr st h) fun f fr st h => hy call f fr st h
  | cond c a b ha hb =>
    intro k
    have e0 : codeXK P n (.cond c a b) k = Option.rec (motive := fun _ => β) (k fun _ _ _ => .bad) (fun c => argK c (fun g => codeXK P n a fun x => codeXK P n b fun y => k fun call f st => onBx (g f) (x call f st) (y call f st)) (k fun _ _ _ => .bad)) (cArg c) := rfl
    rw [e0]
    cases hc : cArg c with
    | none => exact (by refine ⟨_, ?_, rfl⟩; intro call f fr st h; exact trivial)
    | some c' =>
      dsimp only
      rcases argK_eq c' (fun g => codeXK P n a fun x => codeXK P n b fun y => k fun call f st => onBx (g f) (x call f st) (y call f st)) (k fun _ _ _ => .bad) with ⟨g, hg, e⟩ | e
      · obtain ⟨x, hx, e1⟩ := ha (fun x => codeXK P n b fun y => k fun call f st => onBx (g f) (x call f st) (y call f st))
        obtain ⟨y, hy, e2⟩ := hb (fun y => k fun call f st => onBx (g f) (x call f st) (y call f st))
        refine ⟨_, ?_, e.trans (e1.trans e2)⟩
        intro call f fr st h
        dsimp only
        have e4 : exec P call (runDraw2 P) n (.cond c a b) fr st = condC c (exec P call (runDraw2 P) n a) (exec P call (runDraw2 P) n b) fr st := rfl
        rw [e4, onBx_eq, hg f fr h]
        unfold condC
        rw [hc]
        dsimp only
        cases ev fr c' with
        | bool t =>
          dsimp only
          cases t
          · exact hy call f fr st h
          · exact hx call f fr st h
        | _ => trivial
      · exact (by refine ⟨_, ?_, e⟩; intro call f fr st h; exact trivial)
  | block id a ha =>
    intro k
    obtain ⟨x, hx, e1⟩ := ha (fun x => k fun call f st => inBlockX id (x call f st))
    refine ⟨_, ?_, e1⟩; intro call f fr st h; exact RxR.block id (hx call f fr st h)
  | loop a ha =>
    intro k
    obtain ⟨x, hx, e1⟩ := ha (fun x => k fun call f st => loopX (x call) 1000000 f st)
    refine ⟨_, ?_, e1⟩; intro call f fr st h; exact RxR.loop (fun f fr st h => hx call f fr st h) 1000000 f fr st h
  | rangeFunc f ps a b ha hb => intro k; exact (by refine ⟨_, ?_, rfl⟩; intro call f fr st h; exact trivial)
  | exit id => intro k; exact (by refine ⟨_, ?_, rfl⟩; intro call f fr st h; exact ⟨fr, rfl, h⟩)
  | scope a ha => intro k; exact ha k
  | label l => intro k; exact (by refine ⟨_, ?_, rfl⟩; intro call f fr st h; exact ⟨fr, rfl, h⟩)
  | goto l => intro k; exact (by refine ⟨_, ?_, rfl⟩; intro call f fr st h; exact trivial)
  | ret => intro k; exact (by refine ⟨_, ?_, rfl⟩; intro call f fr st h; exact ⟨fr, rfl, h⟩)
  | refuse y => intro k; exact (by refine ⟨_, ?_, rfl⟩; intro call f fr st h; exact trivial)
end Sim

/- Sim, part 34: functions as closures, and calls. -/
namespace Sim
open Go

abbrev FunX := CallF → List CV → St → OR
abbrev BindX := List CV → Fx → (Fx → OR) → OR

/- the frame a call opens -/
noncomputable def forceVO (v : CV) : (CV → OR) → OR := CV.rec (motive_1 := fun _ => (CV → OR) → OR) (motive_2 := fun _ => PUnit) (fun k => k .undef) (fun b => fun k => k (.bool b)) (fun q n => fun k => forceZ n fun n => k (.int q n)) (fun a b => fun k => forceN a fun a => forceN b fun b => k (.str a b)) (fun k => k .nilptr) (fun b off => fun k => forceN off fun off => k (.ptr b off)) (fun k => k .nilslice) (fun b off len cap g => fun k => forceN off fun off => forceN len fun len => forceN cap fun cap => forceN g fun g => k (.slice b off len cap g)) (fun k => k .nilmap) (fun b => fun k => k (.map b)) (fun f a c _ _ => fun k => k (.func f a c)) (fun k => k .nilfunc) (fun t v _ => fun k => k (.iface t v)) (fun k => k .niliface) (fun s _ => fun k => s.force fun s => k (.agg s)) (fun s _ => fun k => s.force fun s => k (.tuple s)) (fun n => fun k => forceN n fun n => k (.atleast n)) PUnit.unit (fun _ _ _ _ => PUnit.unit) (fun _ _ _ _ => PUnit.unit) v
theorem forceVO_eq (v : CV) (k : CV → OR) : forceVO v k = k v := by cases v <;> simp only [forceVO, forceZ_eq, forceN_eq, Segs.force_eq]
noncomputable def bindXK {β : Type} (m : Nat) : Nat → (BindX → β) → β → β :=
  Nat.rec (motive := fun _ => Nat → (BindX → β) → β → β)
    (fun _ k _ => k fun args f kk => List.rec (motive := fun _ => OR) (kk f) (fun _ _ _ => .bad) args)
    (fun _ ih i k bad => xputK i (fun p => ih (Nat.succ i) (fun r => k fun args f kk => List.rec (motive := fun _ => OR) (kk f) (fun v rest _ => forceVO v fun v => p f v fun f => r rest f kk) args) bad) bad) m
def BindOK (i : Nat) (r : BindX) : Prop := ∀ args f fr kk, XR f fr → r args f kk = .bad ∨ ∃ f', XR f' (frameFrom args (Bp.enc i) fr) ∧ r args f kk = kk f'
theorem enc_succ (i : Nat) : (Bp.enc i).succ = Bp.enc (Nat.succ i) := Bp.dec_inj _ _ (by rw [Bp.dec_succ, Bp.dec_enc, Bp.dec_enc])
theorem bindXK_eq {β : Type} : ∀ (m i : Nat) (k : BindX → β) (bad : β), (∃ r, BindOK i r ∧ bindXK m i k bad = k r) ∨ bindXK m i k bad = bad := by
  intro m
  induction m with
  | zero =>
    intro i k bad
    refine .inl ⟨_, ?_, rfl⟩
    intro args f fr kk h
    cases args with
    | nil => exact .inr ⟨f, h, rfl⟩
    | cons v l => exact .inl rfl
  | succ m ih =>
    intro i k bad
    have e0 : bindXK (m + 1) i k bad = xputK i (fun p => bindXK m (Nat.succ i) (fun r => k fun args f kk => List.rec (motive := fun _ => OR) (kk f) (fun v rest _ => forceVO v fun v => p f v fun f => r rest f kk) args) bad) bad := rfl
    rw [e0]
    rcases xputK_eq (R := OR) i (fun p => bindXK m (Nat.succ i) (fun r => k fun args f kk => List.rec (motive := fun _ => OR) (kk f) (fun v rest _ => forceVO v fun v => p f v fun f => r rest f kk) args) bad) bad with ⟨hi, p, hp, e⟩ | ⟨_, e⟩
    · rcases ih (Nat.succ i) (fun r => k fun args f kk => List.rec (motive := fun _ => OR) (kk f) (fun v rest _ => forceVO v fun v => p f v fun f => r rest f kk) args) bad with ⟨r, hr, e2⟩ | e2
      · refine .inl ⟨_, ?_, e.trans e2⟩
        intro args f fr kk h
        cases args with
        | nil => exact .inr ⟨f, h, rfl⟩
        | cons v l =>
          dsimp only
          rw [forceVO_eq, hp f v, frameFrom_cons, enc_succ]
          exact hr l _ _ kk (h.put hi v)
      · exact .inr (e.trans e2)
    · exact .inr e

/- results -/
abbrev Res1X := Fx → St → (CV → OR) → OR
abbrev ResX := Fx → St → (List CV → OR) → OR
noncomputable def onOK (r : OR) (k : CV → OR) : OR := OR.rec (motive := fun _ => (CV → OR) → OR) (fun v _ k => forceVO v fun v => k v) (fun _ => .bad) r k
noncomputable def res1XK {β : Type} (P : Program) (r : ResultVar) (k : Res1X → β) (bad : β) : β :=
  ResultVar.rec (motive := fun _ => β) (fun t => xgetK t (fun g => k fun f _ kk => kk (g f)) bad)
    (fun a t => Option.rec (motive := fun _ => β) bad (fun u => Option.rec (motive := fun _ => β) bad (fun i => xgetK a (fun g =>
      bsel (aggOf u) (forceN i.size fun n => k fun f st kk => onOK (pLoadN n (g f) st) kk) (k fun f st kk => onOK (pLoad1 (g f) st) kk)) bad) (infoT P t)) (undT P t)) r
def Res1OK (P : Program) (r : ResultVar) (g : Res1X) : Prop := ∀ f fr st kk, XR f fr → g f st kk = (match resC1 P fr st r with | some v => kk v | none => .bad)
theorem onOK_eq (r : OR) (k : CV → OR) : onOK r k = (match (match r with | .ok v _ => some v | .bad => none) with | some v => k v | none => .bad) := by
  cases r with
  | bad => rfl
  | ok v st => show forceVO v (fun v => k v) = k v; rw [forceVO_eq]
theorem res1XK_eq {β : Type} (P : Program) (r : ResultVar) (k : Res1X → β) (bad : β) : (∃ g, Res1OK P r g ∧ res1XK P r k bad = k g) ∨ res1XK P r k bad = bad := by
  cases r with
  | tmp t =>
    rcases xgetK_eq t (fun g => k fun f _ kk => kk (g f)) bad with ⟨hi, g, hg, e⟩ | ⟨_, e⟩
    · refine .inl ⟨_, ?_, e⟩
      intro f fr st kk h
      dsimp only
      rw [hg f, h t hi]; rfl
    · exact .inr e
  | cell a t =>
    have e0 : res1XK P (.cell a t) k bad = Option.rec (motive := fun _ => β) bad (fun u => Option.rec (motive := fun _ => β) bad (fun i => xgetK a (fun g =>
      bsel (aggOf u) (forceN i.size fun n => k fun f st kk => onOK (pLoadN n (g f) st) kk) (k fun f st kk => onOK (pLoad1 (g f) st) kk)) bad) (infoT P t)) (undT P t) := rfl
    rw [e0]
    cases hu : undT P t with
    | none => exact .inr rfl
    | some u =>
      cases hi : infoT P t with
      | none => exact .inr rfl
      | some i =>
        dsimp only
        rcases xgetK_eq a (fun g => bsel (aggOf u) (forceN i.size fun n => k fun f st kk => onOK (pLoadN n (g f) st) kk) (k fun f st kk => onOK (pLoad1 (g f) st) kk)) bad with ⟨hlt, g, hg, e⟩ | ⟨_, e⟩
        · rw [e, bsel_eq, forceN_eq]
          by_cases ha : aggOf u = true
          · rw [if_pos ha]
            refine .inl ⟨_, ?_, rfl⟩
            intro f fr st kk h
            dsimp only
            rw [onOK_eq, hg f, h a hlt]
            unfold resC1
            dsimp only
            rw [hu, hi]
            dsimp only
            rw [bsel_eq, if_pos ha]; rfl
          · rw [if_neg ha]
            refine .inl ⟨_, ?_, rfl⟩
            intro f fr st kk h
            dsimp only
            rw [onOK_eq, hg f, h a hlt]
            unfold resC1
            dsimp only
            rw [hu, hi]
            dsimp only
            rw [bsel_eq, if_neg ha]; rfl
        · exact .inr e
noncomputable def resLXK {β : Type} (P : Program) (l : List ResultVar) : (ResX → β) → β → β :=
  List.rec (motive := fun _ => (ResX → β) → β → β) (fun k _ => k fun _ _ kk => kk [])
    (fun r _ ih k bad => res1XK P r (fun g => ih (fun h => k fun f st kk => g f st fun v => h f st fun l => kk (v :: l)) bad) bad) l
def ResLOK (P : Program) (l : List ResultVar) (g : ResX) : Prop := ∀ f fr st kk, XR f fr → g f st kk = (match resL P fr st l with | some v => kk v | none => .bad)
theorem resLXK_eq {β : Type} (P : Program) : ∀ (l : List ResultVar) (k : ResX → β) (bad : β), (∃ g, ResLOK P l g ∧ resLXK P l k bad = k g) ∨ resLXK P l k bad = bad := by
  intro l
  induction l with
  | nil => intro k bad; refine .inl ⟨_, ?_, rfl⟩; intro f fr st kk h; rfl
  | cons r l ih =>
    intro k bad
    have e0 : resLXK P (r :: l) k bad = res1XK P r (fun g => resLXK P l (fun h => k fun f st kk => g f st fun v => h f st fun l => kk (v :: l)) bad) bad := rfl
    rw [e0]
    rcases res1XK_eq P r (fun g => resLXK P l (fun h => k fun f st kk => g f st fun v => h f st fun l => kk (v :: l)) bad) bad with ⟨g, hg, e⟩ | e
    · rcases ih (fun h => k fun f st kk => g f st fun v => h f st fun l => kk (v :: l)) bad with ⟨h', hh, e2⟩ | e2
      · refine .inl ⟨_, ?_, e.trans e2⟩
        intro f fr st kk h
        dsimp only
        rw [hg f fr st _ h]
        have e3 : resL P fr st (r :: l) = (match resC1 P fr st r, resL P fr st l with | some v, some l => some (v :: l) | _, _ => none) := rfl
        rw [e3]
        cases resC1 P fr st r with
        | none => rfl
        | some v =>
          dsimp only
          rw [hh f fr st _ h]
          cases resL P fr st l with
          | none => rfl
          | some l' => rfl
      · exact .inr (e.trans e2)
    · exact .inr e
noncomputable def resFin (l : List CV) (st : St) : OR :=
  List.rec (motive := fun _ => OR) (.ok .undef st) (fun v r _ => List.rec (motive := fun _ => OR) (.ok v st) (fun _ _ _ => (listS (v :: r)).force fun s => .ok (.tuple s) st) r) l
theorem resFin_eq (P : Program) (fr : Fr) (st : St) (l : List ResultVar) : (match resL P fr st l with | some v => resFin v st | none => .bad) = resC P fr st l := by
  unfold resC
  cases resL P fr st l with
  | none => rfl
  | some l' =>
    match l' with
    | [] => rfl
    | [v] => rfl
    | v :: w :: r => rfl

noncomputable def finX (r : Rx) (k : Fx → St → OR) : OR := Rx.rec (motive := fun _ => (Fx → St → OR) → OR) (fun f st k => k f st) (fun _ _ _ _ => .bad) (fun f st k => k f st) (fun _ => .bad) r k
noncomputable def funXK (P : Program) (f : Nat) : Option FunX :=
  bsel (callableT P f) (Option.rec (motive := fun _ => Option FunX) none (fun fn => Option.rec (motive := fun _ => Option FunX) none (fun c =>
    bindXK (Nat.add fn.params.size fn.nfree) 0 (fun b => resLXK P fn.results.toList (fun g => forceN fn.ntmps fun n => codeXK P n c fun x =>
      some fun call args st => b args Fx.nil fun f => finX (x call f st) fun f st => g f st fun l => resFin l st) none) none) fn.body) (funcT P f)) none
theorem funXK_ok {P : Program} {f : Nat} {F : FunX} (h : funXK P f = some F) (call : CallF) (args : List CV) (st : St) : F call args st = .bad ∨ F call args st = enterC P (runDraw2 P) call f args st := by
  unfold funXK at h
  rw [bsel_eq] at h
  split at h
  · rename_i hc
    unfold enterC
    rw [hc, bsel_eq, if_pos rfl]
    cases hf : funcT P f with
    | none => rw [hf] at h; cases h
    | some fn =>
      rw [hf] at h
      cases hb : fn.body with
      | none => dsimp only at h; rw [hb] at h; cases h
      | some c =>
        dsimp only at h ⊢
        rw [hb] at h
        dsimp only at h ⊢
        rw [hb]
        dsimp only
        rcases bindXK_eq (Nat.add fn.params.size fn.nfree) 0 (fun b => resLXK P fn.results.toList (fun g => forceN fn.ntmps fun n => codeXK P n c fun x => some fun call args st => b args Fx.nil fun f => finX (x call f st) fun f st => g f st fun l => resFin l st) none) none with ⟨b, hbo, e⟩ | e
        · rcases resLXK_eq P fn.results.toList (fun g => forceN fn.ntmps fun n => codeXK P n c fun x => some fun call args st => b args Fx.nil fun f => finX (x call f st) fun f st => g f st fun l => resFin l st) none with ⟨g, hg, e2⟩ | e2
          · rw [forceN_eq] at e2
            obtain ⟨x, hx, e3⟩ := codeXK_eq P fn.ntmps c (fun x => some fun call args st => b args Fx.nil fun f => finX (x call f st) fun f st => g f st fun l => resFin l st)
            have e4 := (e.trans e2).trans e3
            rw [h] at e4
            have e5 := Option.some.inj e4
            rw [e5]
            dsimp only
            rcases hbo args Fx.nil .nil (fun f => finX (x call f st) fun f st => g f st fun l => resFin l st) XR.nil with h1 | ⟨f', hf', h1⟩
            · exact .inl h1
            · rw [h1]
              have hr := hx call f' (frameOf args) st hf'
              generalize exec P call (runDraw2 P) fn.ntmps c (frameOf args) st = s at hr
              cases hxr : x call f' st with
              | bad => exact .inl rfl
              | exit id f2 st2 => exact .inl rfl
              | norm f2 st2 =>
                rw [hxr] at hr
                obtain ⟨fr2, rfl, hxr2⟩ := hr
                right
                show g f2 st2 (fun l => resFin l st2) = resC P fr2 st2 fn.results.toList
                rw [hg f2 fr2 st2 _ hxr2, resFin_eq]
              | ret f2 st2 =>
                rw [hxr] at hr
                obtain ⟨fr2, rfl, hxr2⟩ := hr
                right
                show g f2 st2 (fun l => resFin l st2) = resC P fr2 st2 fn.results.toList
                rw [hg f2 fr2 st2 _ hxr2, resFin_eq]
          · rw [e.trans e2] at h; cases h
        · rw [e] at h; cases h
  · cases h

/- calls, so deep; some functions by a contract of their own -/
abbrev IntX := Nat → Option FunX
def IntXSound (P : Program) (I : IntX) : Prop := ∀ f g, I f = some g → ∀ call, CallSound P call → ∀ args st v st', g call args st = .ok v st' → CallOut P f args st v st'
noncomputable def runX (P : Program) (I : IntX) (fuel : Nat) : CallF :=
  Nat.rec (motive := fun _ => CallF) (fun _ _ _ => .bad)
    (fun _ ih f args st => Option.rec (motive := fun _ => OR) (Option.rec (motive := fun _ => OR) .bad (fun F => F ih args st) (funXK P f)) (fun g => g ih args st) (I f)) fuel
theorem runX_sound {P : Program} {I : IntX} (hm : P.follows .mixedOrders = true) (hi : IntXSound P I) : ∀ fuel, CallSound P (runX P I fuel) := by
  intro fuel
  induction fuel with
  | zero => intro f args st v st' h; cases h
  | succ fuel ih =>
    intro f args st v st' h
    have e : runX P I (fuel + 1) f args st = Option.rec (motive := fun _ => OR) (Option.rec (motive := fun _ => OR) .bad (fun F => F (runX P I fuel) args st) (funXK P f)) (fun g => g (runX P I fuel) args st) (I f) := rfl
    rw [e] at h
    cases hg : I f with
    | some g => rw [hg] at h; exact hi f g hg _ ih args st v st' h
    | none =>
      rw [hg] at h
      dsimp only at h
      cases hF : funXK P f with
      | none => rw [hF] at h; cases h
      | some F =>
        rw [hF] at h
        dsimp only at h
        rcases funXK_ok hF (runX P I fuel) args st with h1 | h1
        · rw [h1] at h; cases h
        · rw [h1] at h
          exact .inl (enterC_sound ih (runDraw2_sound hm) h)
end Sim
