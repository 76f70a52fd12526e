import Derived.Test.YtfojoloiahhphaaGreatDoorSimX4D
/- Sim, part 33c: the readers that are asked again; a region that draws, as one closure. -/
namespace Sim
open Go

noncomputable def bareO (P : Program) (o : Oper) : Bool := Option.rec (motive := fun _ => Bool) (Option.rec (motive := fun _ => Bool) false (fun op => op.bare) (compOpT P o.op)) (fun _ => false) (newF P o)
abbrev Ann := Nat × Nat × Oper
noncomputable def annL (P : Program) (l : List Oper) : Nat → Nat → List Ann :=
  List.rec (motive := fun _ => Nat → Nat → List Ann) (fun _ _ => []) (fun o _ ih i c => (i, c, o) :: ih (Nat.succ i) (bsel (isW P o) (Nat.succ c) c)) l
noncomputable def cntL (P : Program) (l : List Oper) : Nat := List.rec (motive := fun _ => Nat) 0 (fun o _ n => bsel (isW P o) (Nat.succ n) n) l
theorem cntL_eq (P : Program) : ∀ l : List Oper, cntL P l = cnt P l l.length := by
  intro l
  induction l with
  | nil => rfl
  | cons o l ih =>
    have e : cntL P (o :: l) = bsel (isW P o) (Nat.succ (cntL P l)) (cntL P l) := rfl
    rw [e, List.length_cons, cnt_cons, ih, bsel_eq]
    split <;> omega
theorem annL_at (P : Program) : ∀ (l : List Oper) (i c k : Nat) (o : Oper), l[k]? = some o → (annL P l i c)[k]? = some (i + k, c + cnt P l k, o) := by
  intro l
  induction l with
  | nil => intro i c k o h; simp at h
  | cons o' l ih =>
    intro i c k o h
    have e : annL P (o' :: l) i c = (i, c, o') :: annL P l (Nat.succ i) (bsel (isW P o') (Nat.succ c) c) := rfl
    rw [e]
    cases k with
    | zero => simp at h; subst h; rfl
    | succ k =>
      rw [List.getElem?_cons_succ, ih _ _ k o (by simpa using h), cnt_cons, bsel_eq]
      congr 2
      · omega
      · congr 1
        split <;> omega
theorem annL_len (P : Program) : ∀ (l : List Oper) (i c : Nat), (annL P l i c).length = l.length := by
  intro l
  induction l with
  | nil => intro i c; rfl
  | cons o l ih => intro i c; show (annL P l _ _).length + 1 = _; rw [ih]; rfl
theorem annL_mem {P : Program} {l : List Oper} {x : Ann} (h : x ∈ annL P l 0 0) : ∃ o, l[x.1]? = some o ∧ x = (x.1, cnt P l x.1, o) := by
  obtain ⟨k, hk, rfl⟩ := List.getElem_of_mem h
  rw [annL_len] at hk
  have h1 := annL_at P l 0 0 k l[k] (List.getElem?_eq_getElem hk)
  rw [List.getElem?_eq_getElem (by rw [annL_len]; exact hk)] at h1
  have h2 := Option.some.inj h1
  rw [h2]
  simp only [Nat.zero_add]
  exact ⟨l[k], List.getElem?_eq_getElem hk, rfl⟩

noncomputable def noB (P : Program) (a : List Ann) : Bool := allL a fun u => Bool.not (isB P u.2.2)
noncomputable def needC (P : Program) (ops : Array Oper) (a : List Ann) (x : Ann) (c' : Nat) : Bool :=
  Bool.or (Bool.and (noB P a) (Nat.beq c' x.2.1)) (Bool.or (anyL a fun u => bsel (isW P u.2.2) (Bool.and (Nat.ble (Nat.succ u.2.1) c') (isAnc ops ops.size u.1 x.1)) false)
    (anyL a fun u => bsel (isW P u.2.2) (Bool.and (Nat.ble c' u.2.1) (isAnc ops ops.size x.1 u.1)) false))
noncomputable def soundC (P : Program) (ops : Array Oper) (i : Nat) (o : Oper) : Bool :=
  allL (looksL P ops o) fun x => CArg.rec (motive := fun _ => Bool) (fun p => allL (idxL ops.toList 0) fun jo => bsel (dstIs jo.2 p) (Nat.ble (Nat.succ jo.1) i) true) (fun _ => true) x
noncomputable def nthS (sts : List St) : Nat → (St → Rx) → Rx :=
  List.rec (motive := fun _ => Nat → (St → Rx) → Rx) (fun _ _ => .bad) (fun s _ ih m k => Nat.rec (motive := fun _ => Rx) (k s) (fun m _ => ih m k) m) sts
theorem nthS_eq : ∀ (sts : List St) (m : Nat) (k : St → Rx), nthS sts m k = (match sts[m]? with | some s => k s | none => .bad) := by
  intro sts
  induction sts with
  | nil => intro m k; rfl
  | cons s sts ih =>
    intro m k
    cases m with
    | zero => rfl
    | succ m => show nthS sts m k = _; rw [ih]; rfl

noncomputable def chk1K {β : Type} (P : Program) (ops : Array Oper) (K : Nat) (x : Ann) (c' : Nat) (k : ChkY → β) (bad : β) : β :=
  forceN (Nat.sub K c') fun m => bsel (soundC P ops x.1 x.2.2) (Option.rec (motive := fun _ => β) bad (fun d => xgetK d (fun g => stepYK P ops x.1 x.2.2 (fun s => k fun call f as sts kk => nthS sts m fun st => s call f st as fun v _ => bsel (eqV (g f) v) kk .bad) bad) bad) x.2.2.dst) bad
def ChkAt (P : Program) (ops : Array Oper) (K : Nat) (call : CallF) (fr : Fr) (as : Pre) (sts : List St) (x : Ann) (c' : Nat) : Prop :=
  ∃ d st v st', x.2.2.dst = some d ∧ soundC P ops x.1 x.2.2 = true ∧ sts[K - c']? = some st ∧ stepD P call ops (as.getD x.1 none) x.2.2 fr st = .ok v st' ∧ fget fr (Bp.enc d) = v
theorem chk1K_eq {β : Type} (P : Program) (ops : Array Oper) (K : Nat) (x : Ann) (c' : Nat) (k : ChkY → β) (bad : β) :
    (∃ r : ChkY, (∀ call f fr as sts kk, XR f fr → AsAt P x.2.2 (as.getD x.1 none) → r call f as sts kk = .bad ∨ (r call f as sts kk = kk ∧ ChkAt P ops K call fr as sts x c')) ∧ chk1K P ops K x c' k bad = k r) ∨ chk1K P ops K x c' k bad = bad := by
  unfold chk1K
  rw [forceN_eq, bsel_eq]
  have e0 : Nat.sub K c' = K - c' := rfl
  rw [e0]
  split
  · rename_i hs
    cases hd : x.2.2.dst with
    | none => exact .inr rfl
    | some d =>
      dsimp only
      rcases xgetK_eq d (fun g => stepYK P ops x.1 x.2.2 (fun s => k fun call f as sts kk => nthS sts (K - c') fun st => s call f st as fun v _ => bsel (eqV (g f) v) kk .bad) bad) bad with ⟨hi, g, hg, e⟩ | ⟨_, e⟩
      · rcases stepYK_eq P ops x.1 x.2.2 (fun s => k fun call f as sts kk => nthS sts (K - c') fun st => s call f st as fun v _ => bsel (eqV (g f) v) kk .bad) bad with ⟨s, hst, e2⟩ | e2
        · refine .inl ⟨_, ?_, e.trans e2⟩
          intro call f fr as sts kk h ha
          try dsimp only
          rw [nthS_eq]
          cases hst2 : sts[K - c']? with
          | none => exact .inl rfl
          | some st =>
            dsimp only
            rw [hst call f fr st as _ h ha]
            cases hsd : stepD P call ops (as.getD x.1 none) x.2.2 fr st with
            | bad => exact .inl rfl
            | ok v st' =>
              show bsel (eqV (g f) v) kk .bad = .bad ∨ (bsel (eqV (g f) v) kk .bad = kk ∧ _)
              rw [bsel_eq]
              split
              · rename_i hev
                refine .inr ⟨rfl, d, st, v, st', hd, hs, hst2, hsd, ?_⟩
                rw [← h d hi, ← hg f]
                exact eqV_sound hev
              · exact .inl rfl
        · exact .inr (e.trans e2)
      · exact .inr e
  · exact .inr rfl

noncomputable def upL (K : Nat) : List Nat := Nat.rec (motive := fun _ => List Nat) [0] (fun k l => Nat.succ k :: l) K
theorem upL_mem : ∀ (K c : Nat), c ≤ K → c ∈ upL K := by
  intro K
  induction K with
  | zero => intro c h; have : c = 0 := by omega
            subst this; exact List.mem_singleton.2 rfl
  | succ K ih =>
    intro c h
    have e : upL (K + 1) = Nat.succ K :: upL K := rfl
    rw [e]
    by_cases hc : c = K + 1
    · subst hc; exact List.mem_cons_self ..
    · exact List.mem_cons_of_mem _ (ih c (by omega))
noncomputable def chkCK {β : Type} (P : Program) (ops : Array Oper) (a : List Ann) (K : Nat) (x : Ann) (l : List Nat) : (ChkY → β) → β → β :=
  List.rec (motive := fun _ => (ChkY → β) → β → β) (fun k _ => k fun _ _ _ _ kk => kk)
    (fun c' _ ih k bad => bsel (needC P ops a x c') (ih k bad) (chk1K P ops K x c' (fun s => ih (fun r => k fun call f as sts kk => s call f as sts (r call f as sts kk)) bad) bad)) l
theorem chkCK_eq {β : Type} (P : Program) (ops : Array Oper) (a : List Ann) (K : Nat) (x : Ann) : ∀ (l : List Nat) (k : ChkY → β) (bad : β),
    (∃ r : ChkY, (∀ call f fr as sts kk, XR f fr → AsAt P x.2.2 (as.getD x.1 none) → r call f as sts kk = .bad ∨ (r call f as sts kk = kk ∧ ∀ c' ∈ l, needC P ops a x c' = false → ChkAt P ops K call fr as sts x c')) ∧ chkCK P ops a K x l k bad = k r) ∨ chkCK P ops a K x l k bad = bad := by
  intro l
  induction l with
  | nil =>
    intro k bad
    refine .inl ⟨_, ?_, rfl⟩
    intro call f fr as sts kk _ _
    exact .inr ⟨rfl, fun c' h => by cases h⟩
  | cons c' l ih =>
    intro k bad
    have e0 : chkCK P ops a K x (c' :: l) k bad = bsel (needC P ops a x c') (chkCK P ops a K x l k bad) (chk1K P ops K x c' (fun s => chkCK P ops a K x l (fun r => k fun call f as sts kk => s call f as sts (r call f as sts kk)) bad) bad) := rfl
    rw [e0, bsel_eq]
    split
    · rename_i hn
      rcases ih k bad with ⟨r, hr, e⟩ | e
      · refine .inl ⟨r, ?_, e⟩
        intro call f fr as sts kk h ha
        rcases hr call f fr as sts kk h ha with hb | ⟨h1, h2⟩
        · exact .inl hb
        · refine .inr ⟨h1, fun c hc hcn => ?_⟩
          rcases List.mem_cons.1 hc with rfl | hc
          · rw [hn] at hcn; cases hcn
          · exact h2 c hc hcn
      · exact .inr e
    · rcases chk1K_eq P ops K x c' (fun s => chkCK P ops a K x l (fun r => k fun call f as sts kk => s call f as sts (r call f as sts kk)) bad) bad with ⟨s, hs, e⟩ | e
      · rcases ih (fun r => k fun call f as sts kk => s call f as sts (r call f as sts kk)) bad with ⟨r, hr, e2⟩ | e2
        · refine .inl ⟨_, ?_, e.trans e2⟩
          intro call f fr as sts kk h ha
          try dsimp only
          rcases hs call f fr as sts (r call f as sts kk) h ha with hb | ⟨h1, h2⟩
          · exact .inl hb
          · rw [h1]
            rcases hr call f fr as sts kk h ha with hb | ⟨h3, h4⟩
            · exact .inl hb
            · refine .inr ⟨h3, fun c hc hcn => ?_⟩
              rcases List.mem_cons.1 hc with rfl | hc
              · exact h2
              · exact h4 c hc hcn
        · exact .inr (e.trans e2)
      · exact .inr e
noncomputable def chksYK {β : Type} (P : Program) (ops : Array Oper) (a : List Ann) (K : Nat) (l : List Ann) : (ChkY → β) → β → β :=
  List.rec (motive := fun _ => (ChkY → β) → β → β) (fun k _ => k fun _ _ _ _ kk => kk)
    (fun x _ ih k bad => bsel (Bool.or (isB P x.2.2) (Bool.or (isW P x.2.2) (bareO P x.2.2))) (ih k bad) (chkCK P ops a K x (upL K) (fun s => ih (fun r => k fun call f as sts kk => s call f as sts (r call f as sts kk)) bad) bad)) l
theorem chksYK_eq {β : Type} (P : Program) (ops : Array Oper) (a : List Ann) (K : Nat) : ∀ (l : List Ann) (k : ChkY → β) (bad : β),
    (∃ r : ChkY, (∀ call f fr as sts kk, XR f fr → (∀ x ∈ l, AsAt P x.2.2 (as.getD x.1 none)) → r call f as sts kk = .bad ∨ (r call f as sts kk = kk ∧ ∀ x ∈ l, isB P x.2.2 = false → isW P x.2.2 = false → bareO P x.2.2 = false → ∀ c' ≤ K, needC P ops a x c' = false → ChkAt P ops K call fr as sts x c')) ∧ chksYK P ops a K l k bad = k r) ∨ chksYK P ops a K l k bad = bad := by
  intro l
  induction l with
  | nil =>
    intro k bad
    refine .inl ⟨_, ?_, rfl⟩
    intro call f fr as sts kk _ _
    exact .inr ⟨rfl, fun x h => by cases h⟩
  | cons x l ih =>
    intro k bad
    have e0 : chksYK P ops a K (x :: l) k bad = bsel (Bool.or (isB P x.2.2) (Bool.or (isW P x.2.2) (bareO P x.2.2))) (chksYK P ops a K l k bad) (chkCK P ops a K x (upL K) (fun s => chksYK P ops a K l (fun r => k fun call f as sts kk => s call f as sts (r call f as sts kk)) bad) bad) := rfl
    rw [e0, bsel_eq]
    split
    · rename_i hn
      rcases ih k bad with ⟨r, hr, e⟩ | e
      · refine .inl ⟨r, ?_, e⟩
        intro call f fr as sts kk h ha
        rcases hr call f fr as sts kk h (fun x hx => ha x (List.mem_cons_of_mem _ hx)) with hb | ⟨h1, h2⟩
        · exact .inl hb
        · refine .inr ⟨h1, fun y hy hB hw hbare => ?_⟩
          rcases List.mem_cons.1 hy with rfl | hy
          · rw [hB, hw, hbare] at hn; cases hn
          · exact h2 y hy hB hw hbare
      · exact .inr e
    · rcases chkCK_eq P ops a K x (upL K) (fun s => chksYK P ops a K l (fun r => k fun call f as sts kk => s call f as sts (r call f as sts kk)) bad) bad with ⟨s, hs, e⟩ | e
      · rcases ih (fun r => k fun call f as sts kk => s call f as sts (r call f as sts kk)) bad with ⟨r, hr, e2⟩ | e2
        · refine .inl ⟨_, ?_, e.trans e2⟩
          intro call f fr as sts kk h ha
          try dsimp only
          rcases hs call f fr as sts (r call f as sts kk) h (ha x (List.mem_cons_self ..)) with hb | ⟨h1, h2⟩
          · exact .inl hb
          · rw [h1]
            rcases hr call f fr as sts kk h (fun x hx => ha x (List.mem_cons_of_mem _ hx)) with hb | ⟨h3, h4⟩
            · exact .inl hb
            · refine .inr ⟨h3, fun y hy hB hw hbare c hc hcn => ?_⟩
              rcases List.mem_cons.1 hy with rfl | hy
              · exact h2 c (upL_mem K c hc) hcn
              · exact h4 y hy hB hw hbare c hc hcn
        · exact .inr (e.trans e2)
      · exact .inr e

theorem stepD_bare {P : Program} {call : CallF} {ops : Array Oper} {o : Oper} {ab : Option Bp} {fr : Fr} {st s1 : St} {v : CV} (hb : bareO P o = true) (hbl : lateF P o = none) (h : stepD P call ops ab o fr st = .ok v s1) (s : St) : ∃ s2, stepD P call ops ab o fr s = .ok v s2 := by
  unfold bareO at hb
  unfold stepD at h ⊢
  cases hn : newF P o with
  | some tz => rw [hn] at hb; cases hb
  | none =>
    rw [hn] at hb h
    dsimp only at hb h
    cases ab with
    | some b =>
      dsimp only at h ⊢
      cases hl : lateF P o with
      | none => rw [hl] at h; cases h
      | some x => rw [hl] at hbl; cases hbl
    | none =>
      dsimp only at h ⊢
      rw [stepC_eq] at h ⊢
      cases hw : wantedC ops fr o with
      | none => rw [hw] at h; cases h
      | some b =>
        rw [hw] at h
        cases b with
        | false => cases h; exact ⟨_, rfl⟩
        | true =>
          dsimp only at h ⊢
          cases hop : compOpT P o.op with
          | none => rw [hop] at h; cases h
          | some op =>
            rw [hop] at h hb
            exact (runOp_bare hb).eq _ _ h

/- late blocks -/
noncomputable def blkE (x y : Option Blk) : Bool :=
  match x, y with
  | none, none => true
  | some (.cells s t g), some (.cells s' t' g') => Bool.and (segE s s') (Bool.and (Nat.beq t t') (boolEq g g'))
  | _, _ => false
theorem blkE_sound {x y : Option Blk} (h : blkE x y = true) : x = y := by
  unfold blkE at h
  split at h
  · rfl
  · simp only [Bool.and_eq_true, Nat.beq_eq, boolEq_iff] at h
    rw [segE_sound h.1, h.2.1, h.2.2]
  · cases h
noncomputable def late1K {β : Type} (K j c : Nat) (ahead : Bool) (k : ChkY → β) : β :=
  forceN (Nat.sub K c) fun m => forceN (Nat.pred m) fun m' => bsel ahead
    (k fun _ _ as sts kk => Option.rec (motive := fun _ => Rx) .bad (fun b => nthS sts m fun st => Option.rec (motive := fun _ => Rx) kk (fun _ => .bad) (st.mem.get b)) (nthO as j))
    (k fun _ _ as sts kk => Option.rec (motive := fun _ => Rx) .bad (fun b => nthS sts m fun st => nthS sts m' fun st' => bsel (blkE (st'.mem.get b) (st.mem.get b)) kk .bad) (nthO as j))
def LateC (K : Nat) (as : Pre) (sts : List St) (j c : Nat) (ahead : Bool) : Prop := ∃ b st, as.getD j none = some b ∧ sts[K - c]? = some st ∧ (if ahead then st.mem.get b = none else ∃ st', sts[K - c - 1]? = some st' ∧ st'.mem.get b = st.mem.get b)
theorem late1K_eq {β : Type} (K j c : Nat) (ahead : Bool) (k : ChkY → β) : ∃ r : ChkY, (∀ call f as sts kk, r call f as sts kk = .bad ∨ (r call f as sts kk = kk ∧ LateC K as sts j c ahead)) ∧ late1K K j c ahead k = k r := by
  unfold late1K
  rw [forceN_eq, forceN_eq, bsel_eq]
  have e0 : Nat.sub K c = K - c := rfl
  have e1 : Nat.pred (K - c) = K - c - 1 := rfl
  rw [e0, e1]
  cases ahead with
  | true =>
    rw [if_pos rfl]
    refine ⟨_, ?_, rfl⟩
    intro call f as sts kk
    try dsimp only
    rw [nthO_eq]
    cases hb : as.getD j none with
    | none => exact .inl rfl
    | some b =>
      dsimp only
      rw [nthS_eq]
      cases hst : sts[K - c]? with
      | none => exact .inl rfl
      | some st =>
        dsimp only
        cases hg : st.mem.get b with
        | some x => exact .inl rfl
        | none => exact .inr ⟨rfl, b, st, hb, hst, by rw [if_pos rfl]; exact hg⟩
  | false =>
    rw [if_neg (by simp)]
    refine ⟨_, ?_, rfl⟩
    intro call f as sts kk
    try dsimp only
    rw [nthO_eq]
    cases hb : as.getD j none with
    | none => exact .inl rfl
    | some b =>
      dsimp only
      rw [nthS_eq]
      cases hst : sts[K - c]? with
      | none => exact .inl rfl
      | some st =>
        dsimp only
        rw [nthS_eq]
        cases hst' : sts[K - c - 1]? with
        | none => exact .inl rfl
        | some st' =>
          dsimp only
          rw [bsel_eq]
          split
          · rename_i hh
            exact .inr ⟨rfl, b, st, hb, hst, by rw [if_neg (by simp)]; exact ⟨st', hst', blkE_sound hh⟩⟩
          · exact .inl rfl
noncomputable def lateSkip (P : Program) (ops : Array Oper) (x u : Ann) : Bool := Bool.or (Bool.not (isW P u.2.2)) (Bool.or (isAnc ops ops.size u.1 x.1) (isAnc ops ops.size x.1 u.1))
noncomputable def lateCK {β : Type} (P : Program) (ops : Array Oper) (K : Nat) (x : Ann) (l : List Ann) : (ChkY → β) → β :=
  List.rec (motive := fun _ => (ChkY → β) → β) (fun k => k fun _ _ _ _ kk => kk)
    (fun u _ ih k => bsel (lateSkip P ops x u) (ih k) (late1K K x.1 u.2.1 (Nat.ble (Nat.succ u.1) x.1) fun s => ih fun r => k fun call f as sts kk => s call f as sts (r call f as sts kk))) l
theorem lateCK_eq {β : Type} (P : Program) (ops : Array Oper) (K : Nat) (x : Ann) : ∀ (l : List Ann) (k : ChkY → β),
    ∃ r : ChkY, (∀ call f as sts kk, r call f as sts kk = .bad ∨ (r call f as sts kk = kk ∧ ∀ u ∈ l, lateSkip P ops x u = false → LateC K as sts x.1 u.2.1 (Nat.ble (Nat.succ u.1) x.1))) ∧ lateCK P ops K x l k = k r := by
  intro l
  induction l with
  | nil => intro k; refine ⟨_, ?_, rfl⟩; intro call f as sts kk; exact .inr ⟨rfl, fun u h => by cases h⟩
  | cons u l ih =>
    intro k
    have e0 : lateCK P ops K x (u :: l) k = bsel (lateSkip P ops x u) (lateCK P ops K x l k) (late1K K x.1 u.2.1 (Nat.ble (Nat.succ u.1) x.1) fun s => lateCK P ops K x l fun r => k fun call f as sts kk => s call f as sts (r call f as sts kk)) := rfl
    rw [e0, bsel_eq]
    split
    · rename_i hs
      obtain ⟨r, hr, e⟩ := ih k
      refine ⟨r, ?_, e⟩
      intro call f as sts kk
      rcases hr call f as sts kk with hb | ⟨h1, h2⟩
      · exact .inl hb
      · refine .inr ⟨h1, fun y hy hsk => ?_⟩
        rcases List.mem_cons.1 hy with rfl | hy
        · rw [hs] at hsk; cases hsk
        · exact h2 y hy hsk
    · obtain ⟨s, hs, e⟩ := late1K_eq K x.1 u.2.1 (Nat.ble (Nat.succ u.1) x.1) (fun s => lateCK P ops K x l fun r => k fun call f as sts kk => s call f as sts (r call f as sts kk))
      obtain ⟨r, hr, e2⟩ := ih (fun r => k fun call f as sts kk => s call f as sts (r call f as sts kk))
      refine ⟨_, ?_, e.trans e2⟩
      intro call f as sts kk
      try dsimp only
      rcases hs call f as sts (r call f as sts kk) with hb | ⟨h1, h2⟩
      · exact .inl hb
      · rw [h1]
        rcases hr call f as sts kk with hb | ⟨h3, h4⟩
        · exact .inl hb
        · refine .inr ⟨h3, fun y hy hsk => ?_⟩
          rcases List.mem_cons.1 hy with rfl | hy
          · exact h2
          · exact h4 y hy hsk
noncomputable def latesYK {β : Type} (P : Program) (ops : Array Oper) (a : List Ann) (K : Nat) (l : List Ann) : (ChkY → β) → β :=
  List.rec (motive := fun _ => (ChkY → β) → β) (fun k => k fun _ _ _ _ kk => kk)
    (fun x _ ih k => bsel (isB P x.2.2) (lateCK P ops K x a fun s => ih fun r => k fun call f as sts kk => s call f as sts (r call f as sts kk)) (ih k)) l
theorem latesYK_eq {β : Type} (P : Program) (ops : Array Oper) (a : List Ann) (K : Nat) : ∀ (l : List Ann) (k : ChkY → β),
    ∃ r : ChkY, (∀ call f as sts kk, r call f as sts kk = .bad ∨ (r call f as sts kk = kk ∧ ∀ x ∈ l, isB P x.2.2 = true → ∀ u ∈ a, lateSkip P ops x u = false → LateC K as sts x.1 u.2.1 (Nat.ble (Nat.succ u.1) x.1))) ∧ latesYK P ops a K l k = k r := by
  intro l
  induction l with
  | nil => intro k; refine ⟨_, ?_, rfl⟩; intro call f as sts kk; exact .inr ⟨rfl, fun u h => by cases h⟩
  | cons x l ih =>
    intro k
    have e0 : latesYK P ops a K (x :: l) k = bsel (isB P x.2.2) (lateCK P ops K x a fun s => latesYK P ops a K l fun r => k fun call f as sts kk => s call f as sts (r call f as sts kk)) (latesYK P ops a K l k) := rfl
    rw [e0, bsel_eq]
    split
    · rename_i hB
      obtain ⟨s, hs, e⟩ := lateCK_eq P ops K x a (fun s => latesYK P ops a K l fun r => k fun call f as sts kk => s call f as sts (r call f as sts kk))
      obtain ⟨r, hr, e2⟩ := ih (fun r => k fun call f as sts kk => s call f as sts (r call f as sts kk))
      refine ⟨_, ?_, e.trans e2⟩
      intro call f as sts kk
      try dsimp only
      rcases hs call f as sts (r call f as sts kk) with hb | ⟨h1, h2⟩
      · exact .inl hb
      · rw [h1]
        rcases hr call f as sts kk with hb | ⟨h3, h4⟩
        · exact .inl hb
        · refine .inr ⟨h3, fun y hy hyB u hu hsk => ?_⟩
          rcases List.mem_cons.1 hy with rfl | hy
          · exact h2 u hu hsk
          · exact h4 y hy hyB u hu hsk
    · rename_i hB
      obtain ⟨r, hr, e⟩ := ih k
      refine ⟨r, ?_, e⟩
      intro call f as sts kk
      rcases hr call f as sts kk with hb | ⟨h1, h2⟩
      · exact .inl hb
      · refine .inr ⟨h1, fun y hy hyB u hu hsk => ?_⟩
        rcases List.mem_cons.1 hy with rfl | hy
        · exact absurd hyB hB
        · exact h2 y hy hyB u hu hsk

/-- No late block: the memory stays between writers. -/
theorem gap_eq {P : Program} {call : CallF} {n : Nat} {ops : Array Oper} {as : List (Option Bp)} {trs : List TR} {ch : List St} {stA st0 stf : St} {fr0 frf : Fr} (hpre : PreOK P ops.toList stA as st0) (htr : TrOK (ops.toList.zip as) P call n ops 0 0 fr0 st0 trs ch frf stf) (hno : ∀ (j : Nat) (o : Oper), ops.toList[j]? = some o → isB P o = false) {k : Nat} :
    ∀ {k' : Nat}, k ≤ k' → k' ≤ ops.toList.length → (∀ (j : Nat) (o : Oper), k ≤ j → j < k' → ops.toList[j]? = some o → isW P o = false) → preS trs stf k' = preS trs stf k := by
  intro k'
  induction k' with
  | zero => intro h _ _; have : k = 0 := by omega
            subst this; rfl
  | succ k' ih =>
    intro h hl hw
    by_cases hk : k = k' + 1
    · subst hk; rfl
    have i1 := ih (by omega) (by omega) (fun j o h1 h2 => hw j o h1 (by omega))
    have ho : ops.toList[k']? = some ops.toList[k'] := List.getElem?_eq_getElem (by omega)
    generalize ops.toList[k'] = o at ho
    obtain ⟨t, ab, h1, h2, h3, h4, h5, h6, h7, h8, h9, h10, h11⟩ := op_at hpre htr ho
    rw [← htr.nxt k' t h1, ← i1, stepD_still (hw k' o (by omega) (by omega) ho) (hno k' o ho) h10]
    unfold preS; rw [h1]

noncomputable def drawYK {β : Type} (P : Program) (n : Nat) (ops : Array Oper) (k : CodeX → β) : β :=
  bsel (statC P ops) (preXK P ops.toList fun pre => opsYK P n ops ops.toList 0 fun r => forceN (cntL P ops.toList) fun K => latesYK P ops (annL P ops.toList 0 0) K (annL P ops.toList 0 0) fun lt => chksYK P ops (annL P ops.toList 0 0) K (annL P ops.toList 0 0)
    (fun ch => k fun call f st => pre st fun as st1 => r call f st1 as [] fun f2 st2 sts => lt call f2 as (st2 :: sts) (ch call f2 as (st2 :: sts) (.norm f2 st2))) (k fun _ _ _ => .bad)) (k fun _ _ _ => .bad)
theorem drawYK_eq {β : Type} (P : Program) (n : Nat) (ops : Array Oper) (k : CodeX → β) :
    ∃ x : CodeX, (∀ call f fr st, XR f fr → x call f st = .bad ∨ ∃ f' fr' st', x call f st = .norm f' st' ∧ XR f' fr' ∧ runDraw2 P call n ops fr st = .norm fr' st') ∧ drawYK P n ops k = k x := by
  have hbad : ∃ x : CodeX, (∀ call f fr st, XR f fr → x call f st = .bad ∨ ∃ f' fr' st', x call f st = .norm f' st' ∧ XR f' fr' ∧ runDraw2 P call n ops fr st = .norm fr' st') ∧ (k fun _ _ _ => .bad) = k x :=
    ⟨_, fun _ _ _ _ _ => .inl rfl, rfl⟩
  unfold drawYK
  rw [bsel_eq]
  split
  · rename_i hs
    have hst := statC_some hs
    obtain ⟨pre, hpre, e1⟩ := preXK_eq P ops.toList (fun pre => opsYK P n ops ops.toList 0 fun r => forceN (cntL P ops.toList) fun K => latesYK P ops (annL P ops.toList 0 0) K (annL P ops.toList 0 0) fun lt => chksYK P ops (annL P ops.toList 0 0) K (annL P ops.toList 0 0)
      (fun ch => k fun call f st => pre st fun as st1 => r call f st1 as [] fun f2 st2 sts => lt call f2 as (st2 :: sts) (ch call f2 as (st2 :: sts) (.norm f2 st2))) (k fun _ _ _ => .bad))
    obtain ⟨r, hr, e2⟩ := opsYK_eq P n ops ops.toList 0 (fun r => forceN (cntL P ops.toList) fun K => latesYK P ops (annL P ops.toList 0 0) K (annL P ops.toList 0 0) fun lt => chksYK P ops (annL P ops.toList 0 0) K (annL P ops.toList 0 0)
      (fun ch => k fun call f st => pre st fun as st1 => r call f st1 as [] fun f2 st2 sts => lt call f2 as (st2 :: sts) (ch call f2 as (st2 :: sts) (.norm f2 st2))) (k fun _ _ _ => .bad))
    rw [forceN_eq] at e2
    obtain ⟨lt, hlt, e4⟩ := latesYK_eq P ops (annL P ops.toList 0 0) (cntL P ops.toList) (annL P ops.toList 0 0) (fun lt => chksYK P ops (annL P ops.toList 0 0) (cntL P ops.toList) (annL P ops.toList 0 0)
      (fun ch => k fun call f st => pre st fun as st1 => r call f st1 as [] fun f2 st2 sts => lt call f2 as (st2 :: sts) (ch call f2 as (st2 :: sts) (.norm f2 st2))) (k fun _ _ _ => .bad))
    rw [e1, e2, e4]
    rcases chksYK_eq P ops (annL P ops.toList 0 0) (cntL P ops.toList) (annL P ops.toList 0 0) (fun ch => k fun call f st => pre st fun as st1 => r call f st1 as [] fun f2 st2 sts => lt call f2 as (st2 :: sts) (ch call f2 as (st2 :: sts) (.norm f2 st2))) (k fun _ _ _ => .bad) with ⟨ch, hch, e3⟩ | e3
    · refine ⟨_, ?_, e3⟩
      intro call f fr st h
      try dsimp only
      rw [hpre]
      obtain ⟨as, st1, hok, hk⟩ := preA_ok (P := P) ops.toList st
      rw [hk]
      have hasAt : ∀ j o, ops.toList[j]? = some o → AsAt P o (as.getD j none) ∧ as[j]? = some (as.getD j none) := by
        intro j o hj
        have hjl : j < as.length := by rw [hok.len]; exact (List.getElem?_eq_some_iff.1 hj).1
        have hg : as[j]? = some (as.getD j none) := by
          rw [List.getD_eq_getElem?_getD, List.getElem?_eq_getElem hjl]; rfl
        refine ⟨⟨fun hn hB => ?_, fun hn => ?_⟩, hg⟩
        · have := hok.olds j o hj hn hB
          rw [hg] at this; exact Option.some.inj this
        · obtain ⟨b, hb⟩ := hok.news j o hj hn
          rw [hg] at hb; exact ⟨b, Option.some.inj hb⟩
      rcases hr call f fr st1 as as [] (fun f2 st2 sts => lt call f2 as (st2 :: sts) (ch call f2 as (st2 :: sts) (.norm f2 st2))) 0 h rfl (by simpa using hasAt) with hb | ⟨trs, chn, frf, stf, f', h1, h2, h3⟩
      · exact .inl hb
      · rw [h3]
        have e5 : stf :: (chn.reverse ++ []) = (chn ++ [stf]).reverse := by simp
        rw [e5]
        rcases hlt call f' as (chn ++ [stf]).reverse (ch call f' as (chn ++ [stf]).reverse (.norm f' stf)) with hb | ⟨l1, l2⟩
        · exact .inl hb
        rw [l1]
        rcases hch call f' frf as (chn ++ [stf]).reverse (.norm f' stf) h2 (fun x hx => by
          obtain ⟨o, ho, e⟩ := annL_mem hx
          have := (hasAt x.1 o ho).1
          rw [e]; exact this) with hb | ⟨h4, h5⟩
        · exact .inl hb
        · refine .inr ⟨f', frf, stf, h4, h2, ?_⟩
          have hmap : (ops.toList.zip as).map (·.1) = ops.toList := List.map_fst_zip (by rw [hok.len]; exact Nat.le_refl _)
          have hzl : (ops.toList.zip as).length = ops.toList.length := by rw [List.length_zip, hok.len]; simp
          have htr := trace_ok h1 (by rw [hmap]; exact hst.s3)
          have hfin := htr.fin
          rw [hmap] at hfin
          have hchl : chn.length = cntL P ops.toList := by rw [chl_eq hok htr, cntL_eq]
          have hrev : ∀ c s, (chn ++ [stf])[c]? = some s → (chn ++ [stf]).reverse[cntL P ops.toList - c]? = some s := by
            intro c s hc
            have hcl := (List.getElem?_eq_some_iff.1 hc).1
            rw [List.length_append, List.length_singleton, hchl] at hcl
            rw [List.getElem?_reverse (by rw [List.length_append, List.length_singleton, hchl]; omega), List.length_append, List.length_singleton, hchl, show cntL P ops.toList + 1 - 1 - (cntL P ops.toList - c) = c by omega]
            exact hc
          have hmemA : ∀ i o, ops.toList[i]? = some o → (i, cnt P ops.toList i, o) ∈ annL P ops.toList 0 0 := by
            intro i o hoi
            have := annL_at P ops.toList 0 0 i o hoi
            simp only [Nat.zero_add] at this
            exact List.mem_of_getElem? this
          unfold runDraw2
          rw [hk, h1]
          dsimp only
          rw [if_pos]
          refine ⟨hst, ?_, ?_⟩
          · intro i t hti htw htB c s hc
            -- the operation at that place
            have hoi := tr_at hok htr hti
            have hil := (List.getElem?_eq_some_iff.1 hoi).1
            obtain ⟨t', ab, g1, hab, g2, g3, g4, g5, g6, g7, g8, g10, g11⟩ := op_at hok htr hoi
            rw [hti] at g1; cases g1
            have hab' : as.getD i none = ab := by
              have := (hasAt i t.o hoi).2
              rw [hab] at this; exact (Option.some.inj this).symm
            have hcK : c ≤ cntL P ops.toList := by
              have := (List.getElem?_eq_some_iff.1 hc).1
              rw [List.length_append, List.length_singleton, hchl] at this
              omega
            have hmem := hmemA i t.o hoi
            have hu : ∀ u ∈ annL P ops.toList 0 0, isW P u.2.2 = true → ∃ tu ∈ trs, tu.w = true ∧ tu.c = u.2.1 ∧ tu.i = u.1 := by
              intro u hu huw
              obtain ⟨ou, ho, e⟩ := annL_mem hu
              obtain ⟨tu, _, k1, _, k2, k3, k4, k5, k6, _⟩ := op_at hok htr ho
              have e2 : u.2.2 = ou := by rw [e]
              have e3 : u.2.1 = cnt P ops.toList u.1 := by rw [e]
              exact ⟨tu, List.mem_of_getElem? k1, by rw [k5, ← e2]; exact huw, by rw [k6, e3], k2⟩
            cases hbare : bareO P t.o with
            | true =>
              refine .inr (.inr ?_)
              rw [g3]
              exact stepD_bare hbare (isB_none htB) g10 s
            | false =>
              cases hnd : needC P ops (annL P ops.toList 0 0) (i, cnt P ops.toList i, t.o) c with
              | true =>
                unfold needC at hnd
                simp only [Bool.or_eq_true, Bool.and_eq_true, Nat.beq_eq, anyL_iff, bsel_eq] at hnd
                rcases hnd with ⟨hnb, hnd⟩ | ⟨u, hu1, hu2⟩ | ⟨u, hu1, hu2⟩
                · -- no late blocks: the memory is the one that was there
                  have hno : ∀ (j : Nat) (o : Oper), ops.toList[j]? = some o → isB P o = false := fun j o hj => by
                    unfold noB at hnb
                    rw [allL_iff] at hnb
                    have := hnb _ (hmemA j o hj)
                    simpa using this
                  obtain ⟨k2, n1, n2, n3, n4, n5, n6⟩ := next_at hok htr (ops.toList.length - i) i (by omega)
                  have e6 := gap_eq hok htr hno n1 n2 n3
                  have e7 : preS trs stf i = t.s := by unfold preS; rw [hti]
                  rw [hnd, n5] at hc
                  cases hc
                  refine .inr (.inr ⟨t.s1, ?_⟩)
                  rw [e6, e7, g3]; exact g10
                · split at hu2
                  · rename_i huw
                    simp only [Bool.and_eq_true, Nat.ble_eq] at hu2
                    obtain ⟨tu, k1, k2, k3, k4⟩ := hu u hu1 huw
                    exact .inl ⟨tu, k1, k2, by rw [k3]; exact hu2.1, by rw [k4, g2]; exact hu2.2⟩
                  · cases hu2
                · split at hu2
                  · rename_i huw
                    simp only [Bool.and_eq_true, Nat.ble_eq] at hu2
                    obtain ⟨tu, k1, k2, k3, k4⟩ := hu u hu1 huw
                    exact .inr (.inl ⟨tu, k1, k2, by rw [k3]; exact hu2.1, by rw [k4, g2]; exact hu2.2⟩)
                  · cases hu2
              | false =>
                refine .inr (.inr ?_)
                obtain ⟨d, s', v, s2, k1, k2, k3, k4, k5⟩ := h5 _ hmem htB htw hbare c hcK hnd
                dsimp only at k1 k2 k4
                have hss : s' = s := by
                  rw [hrev c s hc] at k3
                  exact (Option.some.inj k3).symm
                subst hss
                have hv : v = t.v := by rw [← k5]; exact hfin.1 i t.o d t (by rw [hzl]; exact hil) hoi k1 hti
                have hlook : ∀ x ∈ looksL P ops t.o, ev t.fr x = ev frf x := by
                  intro x hx
                  cases x with
                  | const v => rfl
                  | tmp p =>
                    unfold soundC at k2
                    rw [allL_iff] at k2
                    have k6 := k2 _ hx
                    dsimp only at k6
                    rw [allL_iff] at k6
                    have k7 : ∀ j oj d', ops.toList[j]? = some oj → oj.dst = some d' → Bp.enc d' = p → j < i := by
                      intro j oj d' hj hd' hp
                      have := k6 (j, oj) (by have := idxL_mem (i := 0) hj; simpa using this)
                      dsimp only at this
                      have hds : dstIs oj p = true := by unfold dstIs; rw [hd']; exact bpEq_iff.2 hp
                      rw [hds, bsel_eq, if_pos rfl, Nat.ble_eq] at this
                      exact this
                    show fget t.fr p = fget frf p
                    by_cases hd : ∃ (j : Nat) (oj : Oper) (d' : Tmp), ops.toList[j]? = some oj ∧ oj.dst = some d' ∧ Bp.enc d' = p
                    · obtain ⟨j, oj, d', m1, m2, m3⟩ := hd
                      have hji := k7 j oj d' m1 m2 m3
                      obtain ⟨tj, _, m4, _⟩ := op_at hok htr m1
                      subst m3
                      rw [g8.1 j oj d' tj hji m1 m2 m4, hfin.1 j oj d' tj (by rw [hzl]; exact (List.getElem?_eq_some_iff.1 m1).1) m1 m2 m4]
                    · rw [g8.2, hfin.2]
                      · exact fun j o d _ m1 m2 e => hd ⟨j, o, d, m1, m2, e⟩
                      · exact fun j o d _ m1 m2 e => hd ⟨j, o, d, m1, m2, e⟩
                rw [g3, stepD_congr hlook, ← hab', k4, hv]
                exact ⟨_, rfl⟩
          · intro j tj b hj hjB hjb d td hd hdW a1 a2
            have hoj := tr_at hok htr hj
            have hod := tr_at hok htr hd
            obtain ⟨tj', _, m1, _, m2, _, m3, _, m4, _⟩ := op_at hok htr hoj
            rw [hj] at m1; cases m1
            obtain ⟨td', _, p1, _, p2, _, p3, _, p4, _⟩ := op_at hok htr hod
            rw [hd] at p1; cases p1
            have hsk : lateSkip P ops (j, cnt P ops.toList j, tj.o) (d, cnt P ops.toList d, td.o) = false := by
              unfold lateSkip
              dsimp only
              rw [hdW, a1, a2]; rfl
            obtain ⟨b', st', q1, q2, q3⟩ := l2 _ (hmemA j tj.o hoj) hjB _ (hmemA d td.o hod) hsk
            dsimp only at q1 q2 q3
            have hbb : b' = b := by
              have := (hasAt j tj.o hoj).2
              rw [hjb, q1] at this
              exact (Option.some.inj (Option.some.inj this)).symm
            subst hbb
            constructor
            · intro hlt s hs
              rw [p4] at hs
              rw [hrev _ s hs] at q2
              cases q2
              rw [if_pos (by rw [Nat.ble_eq]; exact hlt)] at q3
              exact q3
            · intro hlt s s' hs hs'
              rw [p4] at hs hs'
              rw [hrev _ s hs] at q2
              cases q2
              rw [if_neg (by rw [Nat.ble_eq]; omega)] at q3
              obtain ⟨st2, r1, r2⟩ := q3
              have := hrev _ s' hs'
              rw [show cntL P ops.toList - (cnt P ops.toList d + 1) = cntL P ops.toList - cnt P ops.toList d - 1 by omega, r1] at this
              cases this
              exact r2
    · rw [e3]; exact hbad
  · exact hbad
end Sim
