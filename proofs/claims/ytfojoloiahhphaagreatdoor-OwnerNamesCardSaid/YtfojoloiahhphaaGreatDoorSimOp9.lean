import Derived.Test.YtfojoloiahhphaaGreatDoorSimOp8
/- Sim, part 15: the operations on maps; composite literals. -/
namespace Sim
open Go

structure KeyT where
  d : EqD
noncomputable def entsOf (x : CV) (st : St) : Option (List Ent) :=
  match x with
  | .nilmap => some []
  | .map b => (match st.mem.get b with | some (.map es _) => some es | _ => none)
  | _ => none
/-- A map whose entries lie in no known order: the keys are ints. -/
noncomputable def lmapOf (x : CV) (st : St) : Option (List Ent) :=
  match x with
  | .map b => (match st.mem.get b with | some (.lmap es) => some es | _ => none)
  | _ => none
noncomputable def isA (a : Int) (v : CV) : Bool := match v with | .int .i64 n => zeq a n | _ => false
noncomputable def lget (a : Int) (es : List Ent) : Option CV := List.rec (motive := fun _ => Option CV) none (fun e _ ih => bsel (isA a e.1) (some e.2.1) ih) es
noncomputable def lupd (a : Int) (x : CV) (es : List Ent) : List Ent := List.rec (motive := fun _ => List Ent) [] (fun e _ ih => bsel (isA a e.1) ((e.1, x, e.2.2) :: ih) (e :: ih)) es
noncomputable def keyA (d : EqD) (k : CV) : Option Int := match d, k with | .int, .int .i64 a => some a | _, _ => none
noncomputable def pLookupL (d : EqD) (z : CV) (ok : Bool) (es : List Ent) (k : CV) (st : St) : OR :=
  match keyA d k with
  | some a => (match lget a es with
    | some u => bsel ok (.ok (.tuple (.one u (.one (.bool true) .nil))) st) (.ok u st)
    | none => bsel ok (.ok (.tuple (.one z (.one (.bool false) .nil))) st) (.ok z st))
  | none => .bad
noncomputable def pLookup (d : EqD) (z : CV) (ok : Bool) (x k : CV) (st : St) : OR :=
  bsel (isKey d k) (match lmapOf x st with
    | some es => pLookupL d z ok es k st
    | none => (match entsOf x st with
    | some es => (match cfind d k es 0 with
      | some (some (_, u)) => bsel ok (.ok (.tuple (.one u (.one (.bool true) .nil))) st) (.ok u st)
      | some none => bsel ok (.ok (.tuple (.one z (.one (.bool false) .nil))) st) (.ok z st)
      | none => .bad)
    | none => .bad)) .bad
noncomputable def modAt (es : List Ent) (i : Nat) (e : Ent) : List Ent :=
  List.rec (motive := fun _ => Nat → List Ent) (fun _ => []) (fun x r ih i => Nat.rec (e :: r) (fun j _ => x :: ih j) i) es i
noncomputable def entAt (es : List Ent) (i : Nat) : Option Ent := List.rec (motive := fun _ => Nat → Option Ent) (fun _ => none) (fun x _ ih i => Nat.rec (some x) (fun j _ => ih j) i) es i
noncomputable def delAt (es : List Ent) (i : Nat) : List Ent :=
  List.rec (motive := fun _ => Nat → List Ent) (fun _ => []) (fun x r ih i => Nat.rec r (fun j _ => x :: ih j) i) es i
noncomputable def pUpdL (d : EqD) (b : Bp) (es : List Ent) (k x : CV) (st : St) : OR :=
  match keyA d k with
  | some a => (match lget a es with
    | some _ => .ok .undef ⟨st.mem.put b (some (.lmap (lupd a x es))), st.next⟩
    | none => .ok .undef ⟨st.mem.put b (some (.lmap (es ++ [(k, x, 0)]))), st.next⟩)
  | none => .bad
noncomputable def pMapUpdate (d : EqD) (m k x : CV) (st : St) : OR :=
  bsel (isKey d k) (match m with
    | .map b => (match st.mem.get b with
      | some (.lmap es) => pUpdL d b es k x st
      | some (.map es clock) => (match cfind d k es 0 with
        | some (some (i, _)) => (match entAt es i with
          | some (k0, _, born) => bsel (sameC k0 k) (.ok .undef ⟨st.mem.put b (some (.map (modAt es i (k, x, born)) clock)), st.next⟩) .bad
          | none => .bad)
        | some none => forceN (Nat.succ clock) fun c => .ok .undef ⟨st.mem.put b (some (.map (es ++ [(k, x, clock)]) c)), st.next⟩
        | none => .bad)
      | _ => .bad)
    | _ => .bad) .bad
noncomputable def pMapEntry (d : EqD) (z : CV) (m k : CV) (st : St) : OR :=
  bsel (isKey d k) (match m with
    | .map b => (match st.mem.get b with
      | some (.map es clock) => (match cfind d k es 0 with
        | some (some (i, u)) => (match entAt es i with
          | some (k0, _, born) => bsel (sameC k0 k) (.ok (.tuple (.one u (.one (.int .i64 (.ofNat born)) .nil))) ⟨st.mem.put b (some (.map (modAt es i (k, u, born)) clock)), st.next⟩) .bad
          | none => .bad)
        | some none => forceN (Nat.succ clock) fun c => .ok (.tuple (.one z (.one (.int .i64 (.ofNat clock)) .nil))) ⟨st.mem.put b (some (.map (es ++ [(k, z, clock)]) c)), st.next⟩
        | none => .bad)
      | _ => .bad)
    | _ => .bad) .bad
noncomputable def bornAt (born : Nat) (es : List Ent) : Nat → Option (Nat × Ent) :=
  List.rec (motive := fun _ => Nat → Option (Nat × Ent)) (fun _ => none) (fun x _ ih i => bsel (Nat.beq x.2.2 born) (some (i, x)) (ih (Nat.succ i))) es
noncomputable def pEntryStore (m s x : CV) (st : St) : OR :=
  match m, s with
  | .map b, .int _ (.ofNat born) => (match st.mem.get b with
    | some (.map es clock) => (match bornAt born es 0 with
      | some (i, (k, _, bn)) => .ok .undef ⟨st.mem.put b (some (.map (modAt es i (k, x, bn)) clock)), st.next⟩
      | none => .bad)
    | _ => .bad)
  | _, _ => .bad
noncomputable def pDelete (d : EqD) (m k : CV) (st : St) : OR :=
  bsel (isKey d k) (match m with
    | .nilmap => .ok .undef st
    | .map b => (match st.mem.get b with
      | some (.map es clock) => (match cfind d k es 0 with
        | some (some (i, _)) => .ok .undef ⟨st.mem.put b (some (.map (delAt es i) clock)), st.next⟩
        | some none => .ok .undef st
        | none => .bad)
      | _ => .bad)
    | _ => .bad) .bad
noncomputable def pMkMap (r : Option CV) (st : St) : OR :=
  match r with
  | none | some (.int _ _) => forceB st.next.succ fun n => .ok (.map st.next) ⟨st.mem.put st.next (some (.map [] 0)), n⟩
  | _ => .bad

section
variable {P : Program} {ρ : Ren} {st st' : St} {w : World} {v : CV}

/-- Entries, pair by pair. -/
def EsR (ρ : Ren) (es : List Ent) (es' : List MapEntry) : Prop :=
  es.length = es'.length ∧ ∀ (i : Nat) (e : Ent) (e' : MapEntry), es[i]? = some e → es'[i]? = some e' → VR ρ e.1 e'.key ∧ VR ρ e.2.1 e'.val ∧ e.2.2 = e'.born
theorem EsR.nil : EsR ρ [] [] := ⟨rfl, fun i e e' h => by simp at h⟩
theorem EsR.cons {e : Ent} {e' : MapEntry} {es : List Ent} {es' : List MapEntry} (h : VR ρ e.1 e'.key ∧ VR ρ e.2.1 e'.val ∧ e.2.2 = e'.born) (t : EsR ρ es es') : EsR ρ (e :: es) (e' :: es') :=
  ⟨by simp [t.1], fun i x x' a b => by
    cases i with
    | zero => simp at a b; subst a; subst b; exact h
    | succ i => exact t.2 i x x' (by simpa using a) (by simpa using b)⟩
theorem EsR.inv {e : Ent} {es : List Ent} {es' : List MapEntry} (h : EsR ρ (e :: es) es') : ∃ e' t', es' = e' :: t' ∧ (VR ρ e.1 e'.key ∧ VR ρ e.2.1 e'.val ∧ e.2.2 = e'.born) ∧ EsR ρ es t' := by
  cases es' with
  | nil => have := h.1; simp at this
  | cons e' t' => exact ⟨e', t', rfl, h.2 0 e e' rfl rfl, by have := h.1; simpa using this, fun i x x' a b => h.2 (i + 1) x x' (by simpa using a) (by simpa using b)⟩
theorem EsR.app {es fs : List Ent} {es' fs' : List MapEntry} (h : EsR ρ es es') (t : EsR ρ fs fs') : EsR ρ (es ++ fs) (es' ++ fs') := by
  induction es generalizing es' with
  | nil => have : es' = [] := by have := h.1; simpa using this.symm
           subst this; exact t
  | cons e es ih => obtain ⟨e', t', rfl, h1, h2⟩ := h.inv; exact EsR.cons h1 (ih h2)
theorem EsR.mod {f : MapEntry → MapEntry} {e : Ent} : ∀ {es : List Ent} {es' : List MapEntry} (i : Nat), EsR ρ es es' → (∀ e', es'[i]? = some e' → VR ρ e.1 (f e').key ∧ VR ρ e.2.1 (f e').val ∧ e.2.2 = (f e').born) → EsR ρ (modAt es i e) (es'.modify i f) := by
  intro es
  induction es with
  | nil =>
    intro es' i h _
    have : es' = [] := by have := h.1; simpa using this.symm
    subst this
    rw [List.modify_nil]; exact h
  | cons x es ih =>
    intro es' i h hf
    obtain ⟨x', t', rfl, h1, h2⟩ := h.inv
    cases i with
    | zero =>
      show EsR ρ (e :: es) _
      rw [List.modify_zero_cons]
      exact EsR.cons (hf x' rfl) h2
    | succ i =>
      show EsR ρ (x :: modAt es i e) _
      rw [List.modify_succ_cons]
      exact EsR.cons h1 (ih i h2 (fun e' he => hf e' (by simpa using he)))
theorem EsR.del : ∀ {es : List Ent} {es' : List MapEntry} (i : Nat), EsR ρ es es' → EsR ρ (delAt es i) (es'.eraseIdx i) := by
  intro es
  induction es with
  | nil =>
    intro es' i h
    have : es' = [] := by have := h.1; simpa using this.symm
    subst this
    rw [List.eraseIdx_nil]; exact h
  | cons x es ih =>
    intro es' i h
    obtain ⟨x', t', rfl, h1, h2⟩ := h.inv
    cases i with
    | zero => exact h2
    | succ i =>
      show EsR ρ (x :: delAt es i) _
      rw [List.eraseIdx_cons_succ]
      exact EsR.cons h1 (ih i h2)
theorem entAt_eq : ∀ (es : List Ent) (i : Nat), entAt es i = es[i]? := by
  intro es
  induction es with
  | nil => intro i; rfl
  | cons x es ih => intro i; cases i with
    | zero => rfl
    | succ i => show entAt es i = _; rw [ih]; simp

theorem isKey_sound {d : EqD} {t : TypeId} {f m : Nat} {k : CV} {k' : Value} (h : isKey d k = true) (hd : eqDesc P f t = some d) (hf : f < 10000) (hm : deepKey m d = true) (hk : VR ρ k k') (e : Bool) : (Instr.checkKey e 10000 t k').run P w = .ok () w := by
  unfold isKey at h
  simp only [Bool.and_eq_true] at h
  have : ceq d k k = some true := by
    cases hc : ceq d k k with
    | none => rw [hc] at h; cases h.2
    | some b => rw [hc] at h; rw [show b = true from h.2]
  exact keyFine f t d hd m hm 10000 hf e k k' this hk

theorem VRs.two {a b : CV} {a' b' : Value} (ha : VR ρ a a') (hb : VR ρ b b') : VRs ρ (row (.one a (.one b .nil))) [a', b'] := VRs.cons ha (VRs.cons hb (VRs.nil ρ))

/- loose maps -/
theorem isA_iff {a : Int} {v : CV} : isA a v = true ↔ v = .int .i64 a := by
  unfold isA
  split
  · rw [zeq_iff]; constructor
    · intro h; rw [h]
    · intro h; cases h; rfl
  · rename_i h
    constructor
    · intro hh; cases hh
    · intro hh; subst hh; exact (h _ rfl).elim
theorem lget_cons (a : Int) (e : Ent) (es : List Ent) : lget a (e :: es) = bsel (isA a e.1) (some e.2.1) (lget a es) := rfl
theorem lupd_cons (a : Int) (x : CV) (e : Ent) (es : List Ent) : lupd a x (e :: es) = bsel (isA a e.1) ((e.1, x, e.2.2) :: lupd a x es) (e :: lupd a x es) := rfl
theorem lupd_map (a : Int) (x : CV) (es : List Ent) : lupd a x es = es.map fun e => if isA a e.1 = true then (e.1, x, e.2.2) else e := by
  induction es with
  | nil => rfl
  | cons e es ih =>
    rw [lupd_cons, List.map_cons, ← ih, bsel_eq]
    split <;> rfl
theorem lget_some {a : Int} : ∀ {es : List Ent} {u : CV}, lget a es = some u → ∃ e ∈ es, e.1 = .int .i64 a ∧ e.2.1 = u := by
  intro es
  induction es with
  | nil => intro u h; cases h
  | cons e es ih =>
    intro u h
    rw [lget_cons, bsel_eq] at h
    split at h
    · rename_i hh; cases h; exact ⟨e, List.mem_cons_self .., isA_iff.1 hh, rfl⟩
    · obtain ⟨e', h1, h2⟩ := ih h; exact ⟨e', List.mem_cons_of_mem _ h1, h2⟩
theorem lget_none {a : Int} : ∀ {es : List Ent}, lget a es = none → ∀ e ∈ es, e.1 ≠ .int .i64 a := by
  intro es
  induction es with
  | nil => intro _ e he; cases he
  | cons e es ih =>
    intro h x hx
    rw [lget_cons, bsel_eq] at h
    split at h
    · cases h
    · rename_i hh
      rcases List.mem_cons.1 hx with rfl | hx
      · exact fun hh' => hh (isA_iff.2 hh')
      · exact ih h x hx
theorem nodup_key {es : List Ent} (hn : (es.map (·.1)).Nodup) {e f : Ent} (he : e ∈ es) (hf : f ∈ es) (h : e.1 = f.1) : e = f := by
  induction es with
  | nil => cases he
  | cons x es ih =>
    rw [List.map_cons, List.nodup_cons] at hn
    rcases List.mem_cons.1 he with he1 | he1
    · rcases List.mem_cons.1 hf with hf1 | hf1
      · rw [he1, hf1]
      · exact absurd (by rw [← he1, h]; exact List.mem_map_of_mem (f := (·.1)) hf1) hn.1
    · rcases List.mem_cons.1 hf with hf1 | hf1
      · exact absurd (by rw [← hf1, ← h]; exact List.mem_map_of_mem (f := (·.1)) he1) hn.1
      · exact ih hn.2 he1 hf1
/-- What the model finds in such a map. -/
theorem lfind_sound {t : TypeId} {a : Int} {k' : Value} {f : Nat} {l : List Ent} {es' : List MapEntry} (hd : eqDesc P f t = some .int) (hf : f < 10000) (hk : VR ρ (.int .i64 a) k') (hi : ∀ e ∈ l, ∃ n : Int, e.1 = .int .i64 n) (hl : l.length = es'.length)
    (h : ∀ (i : Nat) (e : Ent) (e' : MapEntry), l[i]? = some e → es'[i]? = some e' → VR ρ e.1 e'.key ∧ VR ρ e.2.1 e'.val) :
    ∃ r', (Instr.findKey t k' es').run P w = .ok r' w ∧ (match r' with
      | none => ∀ e ∈ l, e.1 ≠ .int .i64 a
      | some (j, u') => ∃ e e', l[j]? = some e ∧ es'[j]? = some e' ∧ e.1 = .int .i64 a ∧ e'.val = u') := by
  -- the entries with the births that they have
  have key : ∀ (l : List Ent) (i : Nat), (∀ e ∈ l, ∃ n : Int, e.1 = .int .i64 n) →
      (∃ j e, l[j]? = some e ∧ e.1 = .int .i64 a ∧ cfind .int (.int .i64 a) l i = some (some (i + j, e.2.1))) ∨ ((∀ e ∈ l, e.1 ≠ .int .i64 a) ∧ cfind .int (.int .i64 a) l i = some none) := by
    intro l
    induction l with
    | nil => intro i _; exact .inr ⟨fun e he => (by cases he), rfl⟩
    | cons e l ih =>
      intro i hi
      obtain ⟨n, hn⟩ := hi e (List.mem_cons_self ..)
      have e0 : cfind .int (.int .i64 a) (e :: l) i = Option.rec none (fun b => bsel b (some (some (i, e.2.1))) (cfind .int (.int .i64 a) l (Nat.succ i))) (ceq .int (.int .i64 a) e.1) := rfl
      rw [e0, hn]
      have e1 : ceq .int (.int .i64 a) (.int .i64 n) = some (zeq a n) := rfl
      rw [e1]
      dsimp only
      rw [bsel_eq]
      by_cases hz : zeq a n = true
      · rw [if_pos hz]
        have := (zeq_iff a n).1 hz; subst this
        exact .inl ⟨0, e, rfl, hn, rfl⟩
      · rw [if_neg hz]
        rcases ih (i + 1) (fun e he => hi e (List.mem_cons_of_mem _ he)) with ⟨j, e', h1, h2, h3⟩ | ⟨h1, h2⟩
        · exact .inl ⟨j + 1, e', by simpa using h1, h2, by rw [show i + (j + 1) = i + 1 + j by omega]; exact h3⟩
        · refine .inr ⟨fun x hx => ?_, h2⟩
          rcases List.mem_cons.1 hx with rfl | hx
          · rw [hn]; intro hh; cases hh; exact hz ((zeq_iff _ _).2 rfl)
          · exact h1 x hx
  have hlz : ∀ (i : Nat) (e : Ent) (e' : MapEntry), (List.zipWith (fun (e : Ent) (e' : MapEntry) => ((e.1, e.2.1, e'.born) : Ent)) l es')[i]? = some e → es'[i]? = some e' → ∃ e0, l[i]? = some e0 ∧ e = (e0.1, e0.2.1, e'.born) := by
    intro i e e' h1 h2
    rw [List.getElem?_zipWith] at h1
    cases h3 : l[i]? with
    | none => rw [h3] at h1; simp at h1
    | some e0 => rw [h3, h2] at h1; simp at h1; exact ⟨e0, rfl, h1.symm⟩
  have hzi : ∀ e ∈ List.zipWith (fun (e : Ent) (e' : MapEntry) => ((e.1, e.2.1, e'.born) : Ent)) l es', ∃ n : Int, e.1 = .int .i64 n := by
    intro e he
    obtain ⟨i, hi', rfl⟩ := List.getElem_of_mem he
    have hlt : i < es'.length := by simp at hi'; omega
    obtain ⟨e0, g1, g2⟩ := hlz i _ es'[i] (List.getElem?_eq_getElem hi') (List.getElem?_eq_getElem hlt)
    rw [g2]; exact hi e0 (List.mem_of_getElem? g1)
  have hlen : (List.zipWith (fun (e : Ent) (e' : MapEntry) => ((e.1, e.2.1, e'.born) : Ent)) l es').length = es'.length := by simp [hl]
  have hpair : ∀ (i : Nat) (e : Ent) (e' : MapEntry), (List.zipWith (fun (e : Ent) (e' : MapEntry) => ((e.1, e.2.1, e'.born) : Ent)) l es')[i]? = some e → es'[i]? = some e' → VR ρ e.1 e'.key ∧ VR ρ e.2.1 e'.val ∧ e.2.2 = e'.born := by
    intro i e e' h1 h2
    obtain ⟨e0, g1, g2⟩ := hlz i e e' h1 h2
    obtain ⟨g3, g4⟩ := h i e0 e' g1 h2
    rw [g2]; exact ⟨g3, g4, rfl⟩
  rcases key _ 0 hzi with ⟨j, e, h1, h2, h3⟩ | ⟨h1, h2⟩
  · obtain ⟨r', f1, f2⟩ := find_sound (P := P) (w := w) hd hf hk hlen hpair h3
    cases r' with
    | none => exact f2.elim
    | some p =>
      obtain ⟨j', u'⟩ := p
      obtain ⟨rfl, g2, e1, e', g3, g4, g5, g6⟩ := f2
      rw [Nat.zero_add] at g3 g4 f1
      obtain ⟨e0, k1, k2⟩ := hlz j e1 e' g3 g4
      rw [h1] at g3; cases g3
      refine ⟨_, f1, e0, e', k1, g4, ?_, g6⟩
      rw [k2] at h2; exact h2
  · obtain ⟨r', f1, f2⟩ := find_sound (P := P) (w := w) hd hf hk hlen hpair h2
    cases r' with
    | some p => exact f2.elim
    | none =>
      refine ⟨_, f1, fun e he => ?_⟩
      obtain ⟨i, hi', rfl⟩ := List.getElem_of_mem he
      have hlt : i < es'.length := by omega
      have hm : (List.zipWith (fun (e : Ent) (e' : MapEntry) => ((e.1, e.2.1, e'.born) : Ent)) l es')[i]? = some (l[i].1, l[i].2.1, es'[i].born) := by
        rw [List.getElem?_zipWith, List.getElem?_eq_getElem hi', List.getElem?_eq_getElem hlt]
      exact h1 (l[i].1, l[i].2.1, es'[i].born) (List.mem_of_getElem? hm)

theorem pLookup_sound {d : EqD} {z : CV} {ok : Bool} {t kt et : TypeId} {f m : Nat} {i : TypeInfo} {z' : Value} {x k : CV} {x' k' : Value} (h : pLookup d z ok x k st = .ok v st') (hw : WR ρ st w) (hx : VR ρ x x') (hk : VR ρ k k')
    (hu : P.underlying t = some (.map kt et)) (hd : eqDesc P f kt = some d) (hf : f < 10000) (hm : deepKey m d = true) (hi : P.info? et = some i) (hz : i.zero = some z') (hzz : VR ρ z z') : DoesV P (Instr.lookup t x' k' ok) ρ st w v st' := by
  unfold pLookup at h
  rw [bsel_eq] at h
  split at h
  · rename_i hik
    have hck := fun e => isKey_sound (w := w) hik hd hf hm hk e
    by_cases hlm : ∃ es, lmapOf x st = some es
    · obtain ⟨es, hlm⟩ := hlm
      rw [hlm] at h
      dsimp only at h
      have hzv : (zeroValue et).run P w = .ok z' w := by simp [zeroValue, typeInfo, hi, hz]
      unfold lmapOf at hlm
      split at hlm
      · rename_i b
        split at hlm
        · rename_i es0 hmm
          cases hlm
          cases hx with
          | map _ r0 sz hr0 =>
            obtain ⟨l, clock, es', h1, h2, h3, h4, h5, h6, h7⟩ := hw.lmap hmm hr0
            unfold pLookupL at h
            split at h
            · rename_i a ha
              unfold keyA at ha
              split at ha
              · cases ha
                obtain ⟨r', f1, f2⟩ := lfind_sound (P := P) (w := w) hd hf hk (fun e he => h3 e (h2.mem_iff.1 he)) h6 h7
                have run : ∀ u' q, (match r' with | some (_, u) => (.ok (u, true) w : Result (Value × Bool)) | none => .ok (z', false) w) = .ok (u', q) w →
                    (Instr.lookup t (.map (some r0)) k' ok).run P w = .ok (if ok then .tuple #[u', .bool q] else u') w := by
                  intro u' q hq
                  simp only [Instr.lookup, Sem.run_bind, run_underlying hu, Result.andThen_ok, Sem.run_pure, run_getObj_map h1, hck, f1]
                  cases r' with
                  | none => cases hq; simp [hzv]
                  | some p => cases hq; simp
                cases hg : lget a es with
                | some u =>
                  rw [hg] at h
                  obtain ⟨e, he, he1, he2⟩ := lget_some hg
                  cases r' with
                  | none => exact absurd he1 (f2 e (h2.mem_iff.2 he))
                  | some p =>
                    obtain ⟨j, u'⟩ := p
                    obtain ⟨e1, e', g1, g2, g3, g4⟩ := f2
                    have hee : e1 = e := nodup_key h4 (h2.mem_iff.1 (List.mem_of_getElem? g1)) he (by rw [g3, he1])
                    subst hee
                    have hv := (h7 j _ _ g1 g2).2
                    rw [he2, g4] at hv
                    have hr := run u' true rfl
                    cases ok with
                    | false => cases h; exact DoesV.still hw hr hv
                    | true => cases h; exact DoesV.still hw hr (VR.tuple' (VRs.two hv (.bool true)))
                | none =>
                  rw [hg] at h
                  cases r' with
                  | some p =>
                    obtain ⟨j, u'⟩ := p
                    obtain ⟨e1, e', g1, g2, g3, g4⟩ := f2
                    exact absurd g3 (lget_none hg e1 (h2.mem_iff.1 (List.mem_of_getElem? g1)))
                  | none =>
                    have hr := run z' false rfl
                    cases ok with
                    | false => cases h; exact DoesV.still hw hr hzz
                    | true => cases h; exact DoesV.still hw hr (VR.tuple' (VRs.two hzz (.bool false)))
              · cases ha
            · cases h
        · cases hlm
      · cases hlm
    have hlm' : lmapOf x st = none := by
      cases hh : lmapOf x st with
      | none => rfl
      | some es => exact absurd ⟨es, hh⟩ hlm
    rw [hlm'] at h
    dsimp only at h
    cases he : entsOf x st with
    | none => rw [he] at h; cases h
    | some es =>
      rw [he] at h
      dsimp only at h
      have key : ∃ es' : List MapEntry, EsR ρ es es' ∧ ∀ (r : Option (Nat × Value)), (Instr.findKey kt k' es').run P w = .ok r w → ∀ u' q, (match r with | some (_, u) => (.ok (u, true) w : Result (Value × Bool)) | none => .ok (z', false) w) = .ok (u', q) w →
          (Instr.lookup t x' k' ok).run P w = .ok (if ok then .tuple #[u', .bool q] else u') w := by
        have hzv : (zeroValue et).run P w = .ok z' w := by simp [zeroValue, typeInfo, hi, hz]
        unfold entsOf at he
        split at he
        · cases he; cases hx
          refine ⟨[], EsR.nil, fun r hr u' q hq => ?_⟩
          simp only [Instr.lookup, Sem.run_bind, run_underlying hu, Result.andThen_ok, Sem.run_pure, hck, hr]
          cases r with
          | none => cases hq; simp [hzv]
          | some p => cases hq; simp
        · rename_i b
          split at he
          · rename_i es0 clock hmm
            cases he
            cases hx with
            | map _ r0 sz hr0 =>
              obtain ⟨es', h1, h2, h3⟩ := hw.map hmm hr0
              refine ⟨es', ⟨h2, h3⟩, fun r hr u' q hq => ?_⟩
              simp only [Instr.lookup, Sem.run_bind, run_underlying hu, Result.andThen_ok, Sem.run_pure, run_getObj_map h1, hck, hr]
              cases r with
              | none => cases hq; simp [hzv]
              | some p => cases hq; simp
          · cases he
        · cases he
      obtain ⟨es', e1, e2⟩ := key
      cases hc : cfind d k es 0 with
      | none => rw [hc] at h; cases h
      | some r =>
        rw [hc] at h
        obtain ⟨r', f1, f2⟩ := find_sound (P := P) (w := w) hd hf hk e1.1 e1.2 hc
        cases r with
        | none =>
          cases r' with
          | some _ => exact f2.elim
          | none =>
            have := e2 none f1 z' false rfl
            cases ok with
            | false => cases h; exact DoesV.still hw this hzz
            | true => cases h; exact DoesV.still hw this (VR.tuple' (VRs.two hzz (.bool false)))
        | some p =>
          obtain ⟨j, u⟩ := p
          cases r' with
          | none => exact f2.elim
          | some p' =>
            obtain ⟨j', u'⟩ := p'
            obtain ⟨_, g2, _⟩ := f2
            have := e2 _ f1 u' true rfl
            cases ok with
            | false => cases h; exact DoesV.still hw this g2
            | true => cases h; exact DoesV.still hw this (VR.tuple' (VRs.two g2 (.bool true)))
  · cases h

/-- A map is turned. -/
theorem After.mapSet {b : Bp} {es es2 : List Ent} {clock clock2 r sz : Nat} {es2' : List MapEntry} (hw : WR ρ st w) (hm : st.mem.get b = some (.map es clock)) (hr : ρ b = some (r, sz)) (he : EsR ρ es2 es2') :
    After ρ st w ρ (st.set b (.map es2 clock2)) { w with heap := w.heap.setIfInBounds r (.map es2'.toArray clock2) } := by
  obtain ⟨es', h1, _⟩ := hw.map hm hr
  have hlt := (Array.getElem?_eq_some_iff.1 h1).1
  exact After.set hw hm hr (by simp [hlt]) (.map es2 clock2 es2' he.1 he.2 sz) (fun k hk => by simp [Array.getElem?_setIfInBounds_ne (Ne.symm hk)]) (by simp) rfl rfl
theorem run_setObj_map {r clock : Nat} {es : Array MapEntry} {o : Obj} (h : w.heap[r]? = some (.map es clock)) : (setObj r o).run P w = .ok () { w with heap := w.heap.setIfInBounds r o } := by
  simp only [setObj, Sem.run, h]

/-- A loose map is turned. -/
theorem After.lmapSet {b : Bp} {es es2 l2 : List Ent} {clock2 r sz : Nat} {es2' : List MapEntry} (hw : WR ρ st w) (hm : st.mem.get b = some (.lmap es)) (hr : ρ b = some (r, sz)) (hp : l2.Perm es2) (hi : ∀ e ∈ es2, ∃ n : Int, e.1 = .int .i64 n) (hn : (es2.map (·.1)).Nodup)
    (hs : Go.MapKept.Stamped es2'.toArray clock2) (hl : l2.length = es2'.length) (h : ∀ (i : Nat) (e : Ent) (e' : MapEntry), l2[i]? = some e → es2'[i]? = some e' → VR ρ e.1 e'.key ∧ VR ρ e.2.1 e'.val) :
    After ρ st w ρ (st.set b (.lmap es2)) { w with heap := w.heap.setIfInBounds r (.map es2'.toArray clock2) } := by
  obtain ⟨_, _, es', h1, _⟩ := hw.lmap hm hr
  have hlt := (Array.getElem?_eq_some_iff.1 h1).1
  exact After.set hw hm hr (by simp [hlt]) (.lmap es2 l2 clock2 es2' hp hi hn hs hl h sz) (fun k hk => by simp [Array.getElem?_setIfInBounds_ne (Ne.symm hk)]) (by simp) rfl rfl
theorem intKey {n : Int} {v' : Value} (h : VR ρ (.int .i64 n) v') : v' = .int .i64 n := by cases h; rfl
theorem pUpdL_run {d : EqD} {b : Bp} {es : List Ent} {t kt et : TypeId} {f r0 sz : Nat} {k y : CV} {k' y' : Value} (h : pUpdL d b es k y st = .ok v st') (hw : WR ρ st w) (hmm : st.mem.get b = some (.lmap es)) (hr0 : ρ b = some (r0, sz)) (hk : VR ρ k k') (hy : VR ρ y y')
    (hu : P.underlying t = some (.map kt et)) (hd : eqDesc P f kt = some d) (hf : f < 10000) (hck : ∀ e, (Instr.checkKey e 10000 kt k').run P w = .ok () w) : v = .undef ∧ ∃ (es2' : List MapEntry) (clock2 : Nat), (Instr.mapUpdate t (.map (some r0)) k' y').run P w = .ok () { w with heap := w.heap.setIfInBounds r0 (.map es2'.toArray clock2) } ∧ After ρ st w ρ st' { w with heap := w.heap.setIfInBounds r0 (.map es2'.toArray clock2) } := by
  obtain ⟨l, clock, es', h1, h2, h3, h4, h5, h6, h7⟩ := hw.lmap hmm hr0
  obtain ⟨s1, s2, s3⟩ := h5
  unfold pUpdL at h
  split at h
  · rename_i a ha
    unfold keyA at ha
    split at ha
    · cases ha
      obtain ⟨r', f1, f2⟩ := lfind_sound (P := P) (w := w) hd hf hk (fun e he => h3 e (h2.mem_iff.1 he)) h6 h7
      have hk' := intKey hk
      subst hk'
      cases hg : lget a es with
      | none =>
        rw [hg] at h; cases h
        cases r' with
        | some p =>
          obtain ⟨j, u'⟩ := p
          obtain ⟨e1, e', g1, g2, g3, g4⟩ := f2
          exact absurd g3 (lget_none hg e1 (h2.mem_iff.1 (List.mem_of_getElem? g1)))
        | none =>
          have hnew : ∀ e' ∈ es', e'.key ≠ .int .i64 a := by
            intro e' he' hh
            obtain ⟨i, hi, rfl⟩ := List.getElem_of_mem he'
            have hlt : i < l.length := by omega
            have hv := (h7 i l[i] _ (List.getElem?_eq_getElem hlt) (List.getElem?_eq_getElem hi)).1
            obtain ⟨n, hn⟩ := h3 _ (h2.mem_iff.1 (List.getElem_mem hlt))
            rw [hn, hh] at hv
            cases hv
            exact f2 _ (List.getElem_mem hlt) hn
          refine ⟨rfl, es' ++ [{ key := Value.int IntKind.i64 a, val := y', born := clock }], clock + 1, ?_, ?_⟩
          · simp only [Instr.mapUpdate, Sem.run_bind, run_underlying hu, Result.andThen_ok, run_getObj_map h1, hck, f1, run_setObj_map h1]
            simp
          refine After.lmapSet (es2 := es ++ [(CV.int IntKind.i64 a, y, 0)]) (l2 := l ++ [(CV.int IntKind.i64 a, y, 0)]) (clock2 := clock + 1) (es2' := es' ++ [{ key := Value.int IntKind.i64 a, val := y', born := clock }]) hw hmm hr0 (h2.append_right _) ?_ ?_ ⟨?_, ?_, ?_⟩ (by simp [h6]) ?_
          · intro e he
            rcases List.mem_append.1 he with he | he
            · exact h3 e he
            · rw [List.mem_singleton.1 he]; exact ⟨a, rfl⟩
          · rw [List.map_append, List.nodup_append]
            refine ⟨h4, by simp, ?_⟩
            intro x hx y hy hxy
            obtain ⟨e, he, rfl⟩ := List.mem_map.1 hx
            simp at hy; subst hy
            exact lget_none hg e he hxy
          · intro x hx
            rw [List.mem_append] at hx
            rcases hx with hx | hx
            · have := s1 x hx; omega
            · rw [List.mem_singleton.1 hx]; exact Nat.lt_succ_self _
          · rw [List.map_append, List.nodup_append]
            refine ⟨s2, by simp, ?_⟩
            intro x hx y hy hxy
            obtain ⟨e, he, rfl⟩ := List.mem_map.1 hx
            simp at hy; subst hy
            have := s1 e he; omega
          · rw [List.map_append, List.nodup_append]
            refine ⟨s3, by simp, ?_⟩
            intro x hx y hy hxy
            obtain ⟨e, he, rfl⟩ := List.mem_map.1 hx
            simp at hy; subst hy
            exact hnew e he hxy
          · intro i e e' a1 a2
            rcases Nat.lt_or_ge i l.length with hlt | hge
            · rw [List.getElem?_append_left hlt] at a1
              rw [List.getElem?_append_left (by omega)] at a2
              exact h7 i e e' a1 a2
            · rw [List.getElem?_append_right hge] at a1
              rw [List.getElem?_append_right (by omega), ← h6] at a2
              generalize i - l.length = q at a1 a2
              cases q with
              | zero => simp at a1 a2; subst a1; subst a2; exact ⟨hk, hy⟩
              | succ q => simp at a1
      | some u =>
        rw [hg] at h; cases h
        obtain ⟨e, he, he1, he2⟩ := lget_some hg
        cases r' with
        | none => exact absurd he1 (f2 e (h2.mem_iff.2 he))
        | some p =>
          obtain ⟨j, u'⟩ := p
          obtain ⟨e1, e', g1, g2, g3, g4⟩ := f2
          have hkey : e'.key = .int .i64 a := by
            have hv := (h7 j _ _ g1 g2).1
            rw [g3] at hv; exact intKey hv
          have hml : ∀ (l : List Ent), (lupd a y l).map (·.1) = l.map (·.1) := by
            intro l
            rw [lupd_map, List.map_map]
            apply List.map_congr_left
            intro x _
            show (if isA a x.1 = true then (x.1, y, x.2.2) else x).1 = x.1
            split <;> rfl
          have hkeys : ((es'.modify j fun e => { e with key := .int .i64 a, val := y' }).map (·.key)) = es'.map (·.key) := by
            apply List.ext_getElem?
            intro i
            rw [List.getElem?_map, List.getElem?_map, List.getElem?_modify]
            by_cases hij : j = i
            · subst hij
              rw [g2]; simp [hkey]
            · simp [hij]
          have hborns : ((es'.modify j fun e => { e with key := .int .i64 a, val := y' }).map (·.born)) = es'.map (·.born) := by
            apply List.ext_getElem?
            intro i
            rw [List.getElem?_map, List.getElem?_map, List.getElem?_modify]
            by_cases hij : j = i
            · subst hij
              rw [g2]; simp
            · simp [hij]
          refine ⟨rfl, es'.modify j fun e => { e with key := .int .i64 a, val := y' }, clock, ?_, ?_⟩
          · have hsb : Instr.sameBits 10000 (.int .i64 a) (.int .i64 a) = true := by simp [Instr.sameBits]
            simp only [Instr.mapUpdate, Sem.run_bind, run_underlying hu, Result.andThen_ok, run_getObj_map h1, hck, f1, Instr.keyThatStays, List.getElem?_toArray, g2, Option.map_some, Option.getD_some, hkey, hsb, if_true, Sem.run_pure, run_setObj_map h1]
            simp
          refine After.lmapSet (l2 := lupd a y l) (clock2 := clock) (es2' := es'.modify j fun e => { e with key := .int .i64 a, val := y' }) hw hmm hr0 (by rw [lupd_map, lupd_map]; exact h2.map _) ?_ (by rw [hml]; exact h4) ⟨?_, ?_, ?_⟩ (by rw [lupd_map]; simp [h6]) ?_
          · intro x hx
            rw [lupd_map, List.mem_map] at hx
            obtain ⟨x0, hx0, rfl⟩ := hx
            obtain ⟨n, hn⟩ := h3 x0 hx0
            split
            · exact ⟨n, hn⟩
            · exact ⟨n, hn⟩
          · intro x hx
            have : x.born ∈ (es'.modify j fun e => { e with key := .int .i64 a, val := y' }).map (·.born) := List.mem_map_of_mem hx
            rw [hborns, List.mem_map] at this
            obtain ⟨x0, hx0, e0⟩ := this
            rw [← e0]; exact s1 x0 hx0
          · show ((es'.modify j fun e => { e with key := .int .i64 a, val := y' }).map (·.born)).Nodup
            rw [hborns]; exact s2
          · show ((es'.modify j fun e => { e with key := .int .i64 a, val := y' }).map (·.key)).Nodup
            rw [hkeys]; exact s3
          · intro i x x' a1 a2
            rw [lupd_map, List.getElem?_map] at a1
            rw [List.getElem?_modify] at a2
            by_cases hij : j = i
            · subst hij
              rw [g1] at a1
              rw [g2] at a2
              simp at a1 a2
              subst a2
              rw [if_pos (isA_iff.2 g3)] at a1
              subst a1
              exact ⟨by rw [g3]; exact hk, hy⟩
            · cases hli : l[i]? with
              | none => rw [hli] at a1; simp at a1
              | some x0 =>
                rw [hli] at a1
                have a2' : es'[i]? = some x' := by simpa [hij] using a2
                obtain ⟨b1, b2⟩ := h7 i x0 x' hli a2'
                have hne : ¬ isA a x0.1 = true := by
                  intro hh
                  have hx0 := isA_iff.1 hh
                  -- two places of one key
                  rw [hx0] at b1
                  have hk0 := intKey b1
                  have hlt1 := (List.getElem?_eq_some_iff.1 g2).1
                  have hlt2 := (List.getElem?_eq_some_iff.1 a2').1
                  have hnd := List.pairwise_iff_getElem.1 s3
                  have e1 : (es'.map (·.key))[j]'(by simpa using hlt1) = .int .i64 a := by
                    have := (List.getElem?_eq_some_iff.1 g2).2
                    rw [List.getElem_map, this, hkey]
                  have e2 : (es'.map (·.key))[i]'(by simpa using hlt2) = .int .i64 a := by
                    have := (List.getElem?_eq_some_iff.1 a2').2
                    rw [List.getElem_map, this, hk0]
                  rcases Nat.lt_or_ge j i with hji | hji
                  · exact hnd j i (by simpa using hlt1) (by simpa using hlt2) hji (by exact e1.trans e2.symm)
                  · exact hnd i j (by simpa using hlt2) (by simpa using hlt1) (by omega) (by exact e2.trans e1.symm)
                simp only [Option.map_some, Option.some.injEq] at a1
                rw [if_neg hne] at a1
                subst a1
                exact ⟨b1, b2⟩
    · cases ha
  · cases h
theorem pUpdL_sound {d : EqD} {b : Bp} {es : List Ent} {t kt et : TypeId} {f r0 sz : Nat} {k y : CV} {k' y' : Value} (h : pUpdL d b es k y st = .ok v st') (hw : WR ρ st w) (hmm : st.mem.get b = some (.lmap es)) (hr0 : ρ b = some (r0, sz)) (hk : VR ρ k k') (hy : VR ρ y y')
    (hu : P.underlying t = some (.map kt et)) (hd : eqDesc P f kt = some d) (hf : f < 10000) (hck : ∀ e, (Instr.checkKey e 10000 kt k').run P w = .ok () w) : DoesU P (Instr.mapUpdate t (.map (some r0)) k' y') ρ st w v st' := by
  obtain ⟨h1, es2, clock2, h2, h3⟩ := pUpdL_run h hw hmm hr0 hk hy hu hd hf hck
  exact ⟨_, ρ, h2, h1, h3⟩
theorem pMapUpdate_sound {d : EqD} {t kt et : TypeId} {f m : Nat} {x k y : CV} {x' k' y' : Value} (h : pMapUpdate d x k y st = .ok v st') (hw : WR ρ st w) (hx : VR ρ x x') (hk : VR ρ k k') (hy : VR ρ y y')
    (hu : P.underlying t = some (.map kt et)) (hd : eqDesc P f kt = some d) (hf : f < 10000) (hm : deepKey m d = true) : DoesU P (Instr.mapUpdate t x' k' y') ρ st w v st' := by
  unfold pMapUpdate at h
  rw [bsel_eq] at h
  split at h
  · rename_i hik
    have hck := fun e => isKey_sound (w := w) hik hd hf hm hk e
    split at h
    · rename_i b
      split at h
      · rename_i es hmm
        cases hx with
        | map _ r0 sz hr0 => exact pUpdL_sound h hw hmm hr0 hk hy hu hd hf hck
      · rename_i es clock hmm
        cases hx with
        | map _ r0 sz hr0 =>
          obtain ⟨es', h1, h2, h3⟩ := hw.map hmm hr0
          cases hc : cfind d k es 0 with
          | none => rw [hc] at h; cases h
          | some r =>
            rw [hc] at h
            obtain ⟨r', f1, f2⟩ := find_sound (P := P) (w := w) hd hf hk h2 h3 hc
            cases r with
            | none =>
              cases r' with
              | some _ => exact f2.elim
              | none =>
                dsimp only at h
                rw [forceN_eq] at h; cases h
                refine ⟨_, ρ, ?_, rfl, After.mapSet (clock2 := clock + 1) hw hmm hr0 (EsR.app ⟨h2, h3⟩ (EsR.cons (e := (k, y, clock)) (e' := { key := k', val := y', born := clock }) ⟨hk, hy, rfl⟩ EsR.nil))⟩
                simp only [Instr.mapUpdate, Sem.run_bind, run_underlying hu, Result.andThen_ok, run_getObj_map h1, hck, f1, run_setObj_map h1]
                simp
            | some p =>
              obtain ⟨j, u⟩ := p
              cases r' with
              | none => exact f2.elim
              | some p' =>
                obtain ⟨j', u'⟩ := p'
                obtain ⟨rfl, g2, e, e', g3, g4, g5, g6⟩ := f2
                dsimp only at h
                rw [entAt_eq, g3] at h
                obtain ⟨k0, u0, born⟩ := e
                dsimp only at h
                rw [bsel_eq] at h
                split at h
                · rename_i hs
                  cases h
                  obtain ⟨a1, a2, a3⟩ := h3 j _ _ g3 g4
                  obtain ⟨s1, s2⟩ := sameC_sound hs a1 hk
                  refine ⟨_, ρ, ?_, rfl, After.mapSet (clock2 := clock) hw hmm hr0 (EsR.mod (e := (k, y, born)) (f := fun e => { e with key := k', val := y' }) j ⟨h2, h3⟩ (fun e2 he2 => by
                    rw [g4] at he2; cases he2; exact ⟨hk, hy, a3⟩))⟩
                  simp only [Instr.mapUpdate, Sem.run_bind, run_underlying hu, Result.andThen_ok, run_getObj_map h1, hck, f1, Instr.keyThatStays, List.getElem?_toArray, g4, Option.map_some, Option.getD_some, s2, if_true, Sem.run_pure, run_setObj_map h1]
                  simp
                · cases h
      · cases h
    · cases h
  · cases h

theorem pMapEntry_sound {d : EqD} {z : CV} {t kt et : TypeId} {f m : Nat} {i : TypeInfo} {z' : Value} {x k : CV} {x' k' : Value} (h : pMapEntry d z x k st = .ok v st') (hw : WR ρ st w) (hx : VR ρ x x') (hk : VR ρ k k')
    (hu : P.underlying t = some (.map kt et)) (hd : eqDesc P f kt = some d) (hf : f < 10000) (hm : deepKey m d = true) (hi : P.info? et = some i) (hz : i.zero = some z') (hzz : VR ρ z z') : DoesV P (Instr.mapEntry t x' k') ρ st w v st' := by
  have hzv : (zeroValue et).run P w = .ok z' w := by simp [zeroValue, typeInfo, hi, hz]
  unfold pMapEntry at h
  rw [bsel_eq] at h
  split at h
  · rename_i hik
    have hck := fun e => isKey_sound (w := w) hik hd hf hm hk e
    split at h
    · rename_i b
      split at h
      · rename_i es clock hmm
        cases hx with
        | map _ r0 sz hr0 =>
          obtain ⟨es', h1, h2, h3⟩ := hw.map hmm hr0
          cases hc : cfind d k es 0 with
          | none => rw [hc] at h; cases h
          | some r =>
            rw [hc] at h
            obtain ⟨r', f1, f2⟩ := find_sound (P := P) (w := w) hd hf hk h2 h3 hc
            cases r with
            | none =>
              cases r' with
              | some _ => exact f2.elim
              | none =>
                dsimp only at h
                rw [forceN_eq] at h; cases h
                refine ⟨.tuple #[z', goInt clock], _, ρ, ?_, VR.tuple' (VRs.two hzz (.int .i64 _)), After.mapSet (clock2 := clock + 1) hw hmm hr0 (EsR.app ⟨h2, h3⟩ (EsR.cons (e := (k, z, clock)) (e' := { key := k', val := z', born := clock }) ⟨hk, hzz, rfl⟩ EsR.nil))⟩
                simp only [Instr.mapEntry, Sem.run_bind, run_underlying hu, Result.andThen_ok, run_getObj_map h1, hck, f1, hzv, run_setObj_map h1, Sem.run_pure]
                simp
            | some p =>
              obtain ⟨j, u⟩ := p
              cases r' with
              | none => exact f2.elim
              | some p' =>
                obtain ⟨j', u'⟩ := p'
                obtain ⟨rfl, g2, e, e', g3, g4, g5, g6⟩ := f2
                dsimp only at h
                rw [entAt_eq, g3] at h
                obtain ⟨k0, u0, born⟩ := e
                dsimp only at h
                rw [bsel_eq] at h
                split at h
                · rename_i hs
                  cases h
                  obtain ⟨a1, a2, a3⟩ := h3 j _ _ g3 g4
                  obtain ⟨s1, s2⟩ := sameC_sound hs a1 hk
                  have a3' : born = e'.born := a3
                  refine ⟨.tuple #[u', goInt e'.born], _, ρ, ?_, VR.tuple' (VRs.two g2 (by rw [a3']; exact .int .i64 _)), After.mapSet (clock2 := clock) hw hmm hr0 (EsR.mod (e := (k, u, born)) (f := fun e => { e with key := k' }) j ⟨h2, h3⟩ (fun e2 he2 => by
                    rw [g4] at he2; cases he2; exact ⟨hk, by rw [g6]; exact g2, a3⟩))⟩
                  simp only [Instr.mapEntry, Sem.run_bind, run_underlying hu, Result.andThen_ok, run_getObj_map h1, hck, f1, Instr.keyThatStays, List.getElem?_toArray, g4, Option.map_some, Option.getD_some, s2, if_true, Sem.run_pure, run_setObj_map h1]
                  simp
                · cases h
      · cases h
    · cases h
  · cases h

theorem bornAt_sound {born : Nat} : ∀ {es : List Ent} {es' : List MapEntry} {j i : Nat} {e : Ent}, EsR ρ es es' → bornAt born es j = some (i, e) →
    j ≤ i ∧ es[i - j]? = some e ∧ es'.findIdx? (fun e => (e.born : Int) == (born : Int)) = some (i - j) := by
  intro es
  induction es with
  | nil => intro es' j i e _ h; cases h
  | cons x es ih =>
    intro es' j i e h hb
    obtain ⟨x', t', rfl, h1, h2⟩ := h.inv
    have e0 : bornAt born (x :: es) j = bsel (Nat.beq x.2.2 born) (some (j, x)) (bornAt born es (j + 1)) := rfl
    simp only [e0, bsel_eq, Nat.beq_eq] at hb
    split at hb
    · rename_i hq
      cases hb
      refine ⟨Nat.le_refl _, by simp, ?_⟩
      rw [List.findIdx?_cons]
      have : ((x'.born : Int) == (born : Int)) = true := by rw [beq_iff_eq, ← h1.2.2, hq]
      simp [this]
    · rename_i hq
      obtain ⟨a1, a2, a3⟩ := ih h2 hb
      refine ⟨by omega, by rw [show i - j = (i - (j + 1)) + 1 by omega]; simpa using a2, ?_⟩
      rw [List.findIdx?_cons]
      have : ((x'.born : Int) == (born : Int)) = false := by
        rw [beq_eq_false_iff_ne, ← h1.2.2]; exact fun e => hq (by exact_mod_cast e)
      simp only [this, Bool.false_eq_true, if_false, a3, Option.map_some]
      congr 1; omega

theorem pEntryStore_sound {t : TypeId} {x s y : CV} {x' s' y' : Value} (h : pEntryStore x s y st = .ok v st') (hw : WR ρ st w) (hx : VR ρ x x') (hs : VR ρ s s') (hy : VR ρ y y') : DoesU P (Instr.entryStore t x' s' y') ρ st w v st' := by
  unfold pEntryStore at h
  split at h
  · rename_i b k born
    split at h
    · rename_i es clock hmm
      cases hs
      cases hx with
      | map _ r0 sz hr0 =>
        obtain ⟨es', h1, h2, h3⟩ := hw.map hmm hr0
        split at h
        · rename_i j k0 u0 bn hb
          cases h
          obtain ⟨a1, a2, a3⟩ := bornAt_sound (ρ := ρ) (es' := es') ⟨h2, h3⟩ hb
          rw [Nat.sub_zero] at a2 a3
          refine ⟨_, ρ, ?_, rfl, After.mapSet (clock2 := clock) hw hmm hr0 (EsR.mod (e := (k0, y, bn)) (f := fun e => { e with val := y' }) j ⟨h2, h3⟩ (fun e2 he2 => by
            obtain ⟨b1, b2, b3⟩ := h3 j _ _ a2 he2; exact ⟨b1, hy, b3⟩))⟩
          simp only [Instr.entryStore, Sem.run_bind, run_getObj_map h1, Result.andThen_ok, asInt, asIntOf, Sem.run_pure]
          have : es'.toArray.findIdx? (fun e => (e.born : Int) == Int.ofNat born) = some j := by
            rw [← a3]; simp
          rw [this]
          simp only [run_setObj_map h1]
          simp
        · cases h
    · cases h
  · cases h

theorem set_self {r : Nat} {o : Obj} {w : World} (h : w.heap[r]? = some o) : ({ w with heap := w.heap.setIfInBounds r o } : World) = w := by
  have : w.heap.setIfInBounds r o = w.heap := by
    apply Array.ext_getElem?
    intro i
    by_cases e : r = i
    · subst e
      have := (Array.getElem?_eq_some_iff.1 h).1
      rw [h]; simp [this]
    · rw [Array.getElem?_setIfInBounds_ne e]
  rw [this]

theorem pDelete_sound {d : EqD} {t kt et ty : TypeId} {f m : Nat} {x k : CV} {x' k' : Value} {ats : Array TypeId} (hat : ats[0]? = some t) (h : pDelete d x k st = .ok v st') (hw : WR ρ st w) (hx : VR ρ x x') (hk : VR ρ k k')
    (hu : P.underlying t = some (.map kt et)) (hd : eqDesc P f kt = some d) (hf : f < 10000) (hm : deepKey m d = true) : DoesV P (Builtin.delete_ ats ty #[x', k']) ρ st w v st' := by
  have hun : VR ρ .undef (.tuple #[]) := .undef
  unfold pDelete at h
  rw [bsel_eq] at h
  split at h
  · rename_i hik
    have hck := fun e => isKey_sound (w := w) hik hd hf hm hk e
    split at h
    · cases h; cases hx
      exact DoesV.still hw (by simp [Builtin.delete_, hat, run_underlying hu, hck]) hun
    · rename_i b
      split at h
      · rename_i es clock hmm
        cases hx with
        | map _ r0 sz hr0 =>
          obtain ⟨es', h1, h2, h3⟩ := hw.map hmm hr0
          cases hc : cfind d k es 0 with
          | none => rw [hc] at h; cases h
          | some r =>
            rw [hc] at h
            obtain ⟨r', f1, f2⟩ := find_sound (P := P) (w := w) hd hf hk h2 h3 hc
            cases r with
            | none =>
              cases r' with
              | some _ => exact f2.elim
              | none =>
                cases h
                refine DoesV.still hw ?_ hun
                simp only [Builtin.delete_, hat, List.getElem?_toArray, List.getElem?_cons_zero, List.getElem?_cons_succ, Sem.run_bind, run_underlying hu, Result.andThen_ok, run_getObj_map h1, hck, f1, run_setObj_map h1, Sem.run_pure]
                rw [set_self h1]
            | some p =>
              obtain ⟨j, u⟩ := p
              cases r' with
              | none => exact f2.elim
              | some p' =>
                obtain ⟨j', u'⟩ := p'
                obtain ⟨rfl, g2, e, e', g3, g4, g5, g6⟩ := f2
                cases h
                refine ⟨.tuple #[], _, ρ, ?_, .undef, After.mapSet (clock2 := clock) hw hmm hr0 (EsR.del j ⟨h2, h3⟩)⟩
                simp only [Builtin.delete_, hat, List.getElem?_toArray, List.getElem?_cons_zero, List.getElem?_cons_succ, Sem.run_bind, run_underlying hu, Result.andThen_ok, run_getObj_map h1, hck, f1, run_setObj_map h1, Sem.run_pure]
                congr 3
                congr 1
                apply Array.ext'
                simp
      · cases h
    · cases h
  · cases h

theorem pMkMap_sound {t kt et : TypeId} {r : Option CV} {r' : Option Value} (h : pMkMap r st = .ok v st') (hw : WR ρ st w) (hr : BR2 ρ r r') (hu : P.underlying t = some (.map kt et)) : DoesV P (Instr.makeMap t r') ρ st w v st' := by
  have key : ∀ n, OR.ok (.map st.next) ⟨st.mem.put st.next (some (.map [] 0)), st.next.succ⟩ = OR.ok v st' → n = w.heap.size → (Instr.makeMap t r').run P w = .ok (.map (some w.heap.size)) { w with heap := w.heap.push (.map #[] 0) } → DoesV P (Instr.makeMap t r') ρ st w v st' := by
    intro n h _ hrun
    cases h
    have ha := After.new hw (BR.map (ρ := ρ.set st.next (w.heap.size, 0)) [] 0 [] rfl (fun i e e' h => by simp at h) 0)
    exact ⟨_, _, _, hrun, .map _ _ _ ha.2, ha.1⟩
  unfold pMkMap at h
  split at h
  · rw [forceB_eq] at h
    cases r' with
    | some _ => exact hr.elim
    | none => exact key _ h rfl (by simp [Instr.makeMap])
  · rw [forceB_eq] at h
    cases r' with
    | none => exact hr.elim
    | some x' =>
      have hr' : VR ρ _ x' := hr
      cases hr'
      exact key _ h rfl (by simp [Instr.makeMap, run_underlying hu, asInt, asIntOf])
  · cases h
end
end Sim
