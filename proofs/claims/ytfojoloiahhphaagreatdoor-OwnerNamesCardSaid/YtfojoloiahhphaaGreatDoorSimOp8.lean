import Derived.Test.YtfojoloiahhphaaGreatDoorSimOp7
/- Sim, part 14: maps; composite literals. -/
namespace Sim
open Go

abbrev Ent := CV × CV × Nat
noncomputable def cfind (d : EqD) (k : CV) (es : List Ent) : Nat → Option (Option (Nat × CV)) :=
  List.rec (motive := fun _ => Nat → Option (Option (Nat × CV))) (fun _ => some none)
    (fun e _ ih i => Option.rec none (fun b => bsel b (some (some (i, e.2.1))) (ih (Nat.succ i))) (ceq d k e.1)) es
noncomputable def keyD (d : EqD) : Bool := match d with | .bool | .int | .str | .bytes _ => true | .struct _ | .array .. => true | _ => false
/-- Is k a key: of the form that its type has? -/
noncomputable def isKey (d : EqD) (k : CV) : Bool := Bool.and (keyD d) (Option.rec false (fun b => b) (ceq d k k))

section
variable {P : Program} {ρ : Ren} {st st' : St} {w : World} {v : CV}

/-- The fields of a key's type are of key types too. -/
noncomputable def deepKey : Nat → EqD → Bool
  | 0, _ => false
  | _ + 1, .bool => true
  | _ + 1, .int => true
  | _ + 1, .str => true
  | _ + 1, .bytes _ => true
  | n + 1, .struct fs => deepF n fs
  | n + 1, .array _ _ _ e => deepKey n e
  | _ + 1, _ => false
where deepF : Nat → EqF → Bool
  | 0, _ => false
  | _ + 1, .nil => true
  | n + 1, .cons _ _ _ d r => deepKey n d && deepF n r

theorem findAsking_sound {d : EqD} {t : TypeId} {k : CV} {k' : Value} (hf : EqFine P w ρ d t 10000) (hk : VR ρ k k') : ∀ (es : List Ent) (es' : List MapEntry) (j : Nat) (r : Option (Nat × CV)), es.length = es'.length →
    (∀ (i : Nat) (e : Ent) (e' : MapEntry), es[i]? = some e → es'[i]? = some e' → VR ρ e.1 e'.key ∧ VR ρ e.2.1 e'.val ∧ e.2.2 = e'.born) → cfind d k es j = some r →
    ∃ r', (Instr.findAsking t k' es' j).run P w = .ok r' w ∧ (match r, r' with
      | none, none => True
      | some (i, u), some (i', u') => i = i' ∧ VR ρ u u' ∧ j ≤ i ∧ ∃ e e', es[i - j]? = some e ∧ es'[i - j]? = some e' ∧ e.2.1 = u ∧ e'.val = u'
      | _, _ => False) := by
  intro es
  induction es with
  | nil =>
    intro es' j r hl h hc
    have : es' = [] := by apply List.length_eq_zero_iff.1; simpa using hl.symm
    subst this
    cases hc
    exact ⟨none, by simp [Instr.findAsking], trivial⟩
  | cons e es ih =>
    intro es' j r hl h hc
    cases es' with
    | nil => simp at hl
    | cons e' es' =>
      obtain ⟨a1, a2, a3⟩ := h 0 e e' rfl rfl
      have e0 : cfind d k (e :: es) j = Option.rec none (fun b => bsel b (some (some (j, e.2.1))) (cfind d k es (j + 1))) (ceq d k e.1) := rfl
      rw [e0] at hc
      cases hq : ceq d k e.1 with
      | none => rw [hq] at hc; cases hc
      | some b =>
        rw [hq] at hc
        have hr : (Op.equal t k' e'.key).run P w = .ok b w := hf k e.1 k' e'.key b hq hk a1
        cases b with
        | true =>
          cases hc
          exact ⟨some (j, e'.val), by simp [Instr.findAsking, hr], rfl, a2, Nat.le_refl _, e, e', by simp, by simp, rfl, rfl⟩
        | false =>
          obtain ⟨r', r1, r2⟩ := ih es' (j + 1) r (by simpa using hl) (fun i x x' hx hx' => h (i + 1) x x' (by simpa using hx) (by simpa using hx')) hc
          refine ⟨r', by simp [Instr.findAsking, hr, r1], ?_⟩
          cases r with
          | none => cases r' with
            | none => trivial
            | some _ => exact r2
          | some p => cases r' with
            | none => exact r2
            | some p' =>
              obtain ⟨i, u⟩ := p
              obtain ⟨i', u'⟩ := p'
              obtain ⟨b1, b2, b3, x, x', b4, b5, b6, b7⟩ := r2
              refine ⟨b1, b2, by omega, x, x', ?_, ?_, b6, b7⟩
              · rw [show i - j = (i - (j + 1)) + 1 by omega]; simpa using b4
              · rw [show i - j = (i - (j + 1)) + 1 by omega]; simpa using b5

theorem sameNow_equal {t : TypeId} {u : TypeDesc} {a b : Value} {q : Bool} (hu : P.underlying t = some u) (h : Instr.sameNow u a b = some q) : (Op.equal t a b).run P w = .ok q w := by
  unfold Instr.sameNow at h
  split at h
  · split at h
    · rename_i hk; cases h; subst hk
      exact run_equalIn_int w 9999 t _ _ _ _ hu
    · cases h
  · cases h
    rename_i x y
    rw [beq_toListBytes]
    exact run_equalIn_string w 9999 t x y hu
  · cases h; exact run_equalIn_bool' w 9999 t _ _ hu
  · cases h

theorem findNow_asking {t : TypeId} {u : TypeDesc} {k' : Value} (hu : P.underlying t = some u) : ∀ (es' : List MapEntry) (j : Nat) (r : Option (Nat × Value)), Instr.findNow u k' es' j = some r → (Instr.findAsking t k' es' j).run P w = .ok r w := by
  intro es'
  induction es' with
  | nil => intro j r h; cases h; simp [Instr.findAsking]
  | cons e es' ih =>
    intro j r h
    simp only [Instr.findNow] at h
    split at h
    · rename_i hs; cases h; simp [Instr.findAsking, sameNow_equal hu hs]
    · rename_i hs; simp [Instr.findAsking, sameNow_equal hu hs, ih _ _ h]
    · cases h

theorem findKey_run {t : TypeId} {u : TypeDesc} {k' : Value} {es' : List MapEntry} {r : Option (Nat × Value)} (hu : P.underlying t = some u) (h : (Instr.findAsking t k' es' 0).run P w = .ok r w) : (Instr.findKey t k' es').run P w = .ok r w := by
  simp only [Instr.findKey, Sem.run_bind, run_underlying hu, Result.andThen_ok]
  cases hn : Instr.findNow u k' es' 0 with
  | none => exact h
  | some r' =>
    have := findNow_asking (P := P) (w := w) hu es' 0 r' hn
    rw [this] at h; cases h; rfl

/-- A key is found, or not, as in the clean map. -/
theorem find_sound {d : EqD} {t : TypeId} {f : Nat} {k : CV} {k' : Value} {es : List Ent} {es' : List MapEntry} {r : Option (Nat × CV)} (hd : eqDesc P f t = some d) (hf : f < 10000) (hk : VR ρ k k') (hl : es.length = es'.length)
    (h : ∀ (i : Nat) (e : Ent) (e' : MapEntry), es[i]? = some e → es'[i]? = some e' → VR ρ e.1 e'.key ∧ VR ρ e.2.1 e'.val ∧ e.2.2 = e'.born) (hc : cfind d k es 0 = some r) :
    ∃ r', (Instr.findKey t k' es').run P w = .ok r' w ∧ (match r, r' with
      | none, none => True
      | some (i, u), some (i', u') => i = i' ∧ VR ρ u u' ∧ ∃ e e', es[i]? = some e ∧ es'[i]? = some e' ∧ e.2.1 = u ∧ e'.val = u'
      | _, _ => False) := by
  obtain ⟨r', h1, h2⟩ := findAsking_sound (P := P) (w := w) (eqFine f t d hd 10000 hf) hk es es' 0 r hl h hc
  have hu : ∃ u, P.underlying t = some u := by
    cases f with
    | zero => cases hd
    | succ f =>
      simp only [eqDesc] at hd
      cases hu : P.underlying t with
      | none => rw [hu] at hd; cases hd
      | some u => exact ⟨u, rfl⟩
  obtain ⟨u, hu⟩ := hu
  refine ⟨r', findKey_run hu h1, ?_⟩
  cases r with
  | none => cases r' <;> exact h2
  | some p => cases r' with
    | none => exact h2
    | some p' =>
      obtain ⟨i, u⟩ := p
      obtain ⟨i', u'⟩ := p'
      obtain ⟨b1, b2, b3, x, x', b4, b5, b6, b7⟩ := h2
      exact ⟨b1, b2, x, x', by simpa using b4, by simpa using b5, b6, b7⟩

/- Keys are hashable. -/
def KeyFine (P : Program) (w : World) (ρ : Ren) (d : EqD) (t : TypeId) (n : Nat) : Prop :=
  ∀ (e : Bool) (x : CV) (x' : Value), ceq d x x = some true → VR ρ x x' → (Instr.checkKey e n t x').run P w = .ok () w

theorem andThen_true {a b : Option Bool} (h : andThen a b = some true) : a = some true ∧ b = some true := by
  cases a with
  | none => cases h
  | some q => cases q with
    | false => cases h
    | true => exact ⟨rfl, h⟩

theorem run_forIn_unit {β : Type} (l : List β) (f : β → Sem Unit) (h : ∀ x ∈ l, (f x).run P w = .ok () w) :
    (forIn l PUnit.unit fun x _ => do f x; pure (ForInStep.yield PUnit.unit)).run P w = .ok PUnit.unit w := by
  induction l with
  | nil => rfl
  | cons a l ih =>
    rw [List.forIn_cons]
    simp only [Sem.run_bind, h a (by simp), Result.andThen_ok, Sem.run_pure]
    exact ih (fun x hx => h x (by simp [hx]))

theorem ceqA_refl {len size : Nat} {agg : Bool} {e : EqD} {s : Segs CV} : ∀ (off : Nat), Nat.rec (motive := fun _ => Nat → Option Bool) (fun _ => some true)
        (fun _ ih off => Option.rec none (fun a => Option.rec none (fun b => andThen (ceq e a b) (ih (Nat.add off size))) (cpart agg off size s)) (cpart agg off size s)) len off = some true →
      ∀ j, j < len → ∃ x, cpart agg (off + j * size) size s = some x ∧ ceq e x x = some true := by
  induction len with
  | zero => intro off _ j hj; omega
  | succ len ih =>
    intro off h j hj
    simp only at h
    cases hx : cpart agg off size s with
    | none => rw [hx] at h; cases h
    | some x =>
      rw [hx] at h
      obtain ⟨a1, a2⟩ := andThen_true h
      cases j with
      | zero => exact ⟨x, by simpa using hx, a1⟩
      | succ j =>
        obtain ⟨y, b1, b2⟩ := ih (off + size) a2 j (by omega)
        exact ⟨y, by rw [← b1]; congr 1; rw [Nat.succ_mul]; omega, b2⟩

theorem ceqF_refl {desc : TypeId → Option EqD} {s : Segs CV} : ∀ (fs : List Field) (r : EqF), fieldsD P desc fs = some r → ceqF r s s = some true →
      ∀ f ∈ fs, f.name ≠ "_" ∧ ∃ i u d x, P.info? f.type = some i ∧ P.underlying f.type = some u ∧ desc f.type = some d ∧ cpart (aggOf u) f.offset i.size s = some x ∧ ceq d x x = some true := by
  intro fs
  induction fs with
  | nil => intro r _ _ f hf; cases hf
  | cons g fs ih =>
    intro r h hb f hf
    simp only [fieldsD] at h
    split at h
    · rename_i i u d r' hne hi hu hd hr
      cases h
      simp only [ceqF] at hb
      cases hx : cpart (aggOf u) g.offset i.size s with
      | none => rw [hx] at hb; cases hb
      | some x =>
        rw [hx] at hb
        obtain ⟨a1, a2⟩ := andThen_true hb
        rcases List.mem_cons.1 hf with rfl | hf
        · exact ⟨by simpa using hne, i, u, d, x, hi, hu, hd, hx, a1⟩
        · exact ih r' hr a2 f hf
    · cases h

theorem keyFine : ∀ (f : Nat) (t : TypeId) (d : EqD), eqDesc P f t = some d → ∀ m, deepKey m d = true → ∀ n, f < n → KeyFine P w ρ d t n := by
  intro f
  induction f with
  | zero => intro t d h; cases h
  | succ f ih =>
    intro t d h m hm n hn e x x' hx hv
    obtain ⟨n, rfl⟩ : ∃ k, n = k + 1 := ⟨n - 1, by omega⟩
    simp only [eqDesc] at h
    split at h
    · rename_i hu; simp [Instr.checkKey, run_underlying hu]
    · rename_i k hu; simp [Instr.checkKey, run_underlying hu]
    · rename_i hu; simp [Instr.checkKey, run_underlying hu]
    · rename_i hu; simp [Instr.checkKey, run_underlying hu]
    · cases h; cases m <;> simp [deepKey] at hm
    · rename_i hu; simp [Instr.checkKey, run_underlying hu]
    · rename_i hu; simp [Instr.checkKey, run_underlying hu]
    · rename_i hu; simp [Instr.checkKey, run_underlying hu]
    · rename_i fs hu
      rw [bsel_eq] at h
      split at h
      · cases h
      · split at h
        · rename_i l hl
          cases h
          simp only [ceq] at hx
          split at hx
          · rename_i s1
            cases hv with
            | agg _ lv hlv hh =>
              cases m with
              | zero => cases hm
              | succ m =>
                have hall := ceqF_refl (P := P) fs.toList l hl hx
                simp only [Instr.checkKey, Sem.run_bind, run_underlying hu, Result.andThen_ok]
                rw [← Array.forIn_toList]
                have hdeep : ∀ (q : Nat) (r : EqF) (fl : List Field), fieldsD P (eqDesc P f) fl = some r → deepKey.deepF q r = true → ∀ g ∈ fl, ∀ d', eqDesc P f g.type = some d' → ∃ q', deepKey q' d' = true := by
                  intro q
                  induction q with
                  | zero => intro r fl _ hq; cases hq
                  | succ q ihq =>
                    intro r fl hr hq g hg d' hd'
                    cases fl with
                    | nil => cases hg
                    | cons g0 fl =>
                      simp only [fieldsD] at hr
                      split at hr
                      · rename_i i0 u0 d0 r0 hne0 hi0 hu0 hd0 hr0
                        cases hr
                        simp only [deepKey.deepF, Bool.and_eq_true] at hq
                        rcases List.mem_cons.1 hg with rfl | hg
                        · rw [hd0] at hd'; cases hd'; exact ⟨q, hq.1⟩
                        · exact ihq r0 fl hr0 hq.2 g hg d' hd'
                      · cases hr
                have hg : ∀ g ∈ fs.toList, g.name ≠ "_" ∧ ∃ y', (part g.type lv.toArray g.offset).run P w = .ok y' w ∧ (Instr.checkKey e n g.type y').run P w = .ok () w := by
                  intro g hgm
                  obtain ⟨h1, i, u, d', y, h2, h3, h4, h5, h6⟩ := hall g hgm
                  obtain ⟨y', p1, p2⟩ := cpart_sound (P := P) (w := w) h5 ⟨hlv, hh⟩ h2 rfl h3 rfl
                  obtain ⟨q', hq'⟩ := hdeep m l fs.toList hl hm g hgm d' h4
                  exact ⟨h1, y', p1, ih g.type d' h4 q' hq' n (by omega) e y y' h6 p2⟩
                generalize fs.toList = ll at hg
                refine Eq.trans (congrArg (fun r : Result PUnit => r.andThen _) (?_ : _ = Result.ok PUnit.unit w)) rfl
                induction ll with
                | nil => rfl
                | cons g ll ihl =>
                  obtain ⟨h1, y', p1, p2⟩ := hg g (by simp)
                  rw [List.forIn_cons]
                  simp only [ne_eq, h1, not_false_eq_true, if_true, Sem.run_bind, p1, p2, Result.andThen_ok, Sem.run_pure]
                  exact ihl (fun g' hg' => hg g' (by simp [hg']))
          · cases hx
        · cases h
    · rename_i len el hu
      split at h
      · rename_i i hi hue
        rw [bsel_eq] at h
        split at h
        · rename_i h1
          rw [Nat.beq_eq] at h1
          cases h
          simp only [ceq] at hx
          split at hx
          · rename_i n1 a
            rw [bsel_eq] at hx
            split at hx
            · rename_i hq
              simp only [Bool.and_eq_true, Nat.beq_eq] at hq
              obtain ⟨rfl, _⟩ := hq
              rw [hv.bytes_inv]
              have hs : (Go.sizeOf el).run P w = .ok 1 w := by simp [Go.sizeOf, typeInfo, hi, h1]
              simp only [Instr.checkKey, Sem.run_bind, run_underlying hu, Result.andThen_ok, Std.Legacy.Range.forIn_eq_forIn_range', Std.Legacy.Range.size, Nat.sub_zero, Nat.add_one_sub_one, Nat.div_one]
              obtain ⟨n', rfl⟩ : ∃ k, n = k + 1 := ⟨n - 1, by omega⟩
              refine Eq.trans (congrArg (fun r : Result PUnit => r.andThen _) (?_ : _ = Result.ok PUnit.unit w)) rfl
              have hl : ∀ j ∈ List.range' 0 n1 1, j < n1 := fun j hj => by simpa using (List.mem_range'_1.1 hj).2
              generalize List.range' 0 n1 1 = ll at hl
              induction ll with
              | nil => rfl
              | cons j ll ihl =>
                have hj := hl j (by simp)
                have hp : (part el (((ub n1 a).map UInt8.ofNat).map Extern.Stop.cell).toArray (j * 1)).run P w = .ok (Extern.Stop.cell (((ub n1 a).map UInt8.ofNat)[j]'(by simpa using hj))) w := by
                  simp [part, isAgg, run_underlying hue, hj]
                rw [List.forIn_cons]
                simp only [Sem.run_bind, hs, hp, Result.andThen_ok, Instr.checkKey, run_underlying hue, Sem.run_pure]
                exact ihl (fun j' hj' => hl j' (by simp [hj']))
            · cases hx
          · cases hx
        · cases h
      · rename_i i u hne hi hue
        split at h
        · rename_i d' hd
          cases h
          simp only [ceq] at hx
          split at hx
          · rename_i s1
            cases hv with
            | agg _ lv hlv hh =>
              cases m with
              | zero => cases hm
              | succ m =>
                have hm' : deepKey m d' = true := hm
                have hs : (Go.sizeOf el).run P w = .ok i.size w := by simp [Go.sizeOf, typeInfo, hi]
                have hall := ceqA_refl (s := s1) 0 hx
                simp only [Instr.checkKey, Sem.run_bind, run_underlying hu, Result.andThen_ok, Std.Legacy.Range.forIn_eq_forIn_range', Std.Legacy.Range.size, Nat.sub_zero, Nat.add_one_sub_one, Nat.div_one]
                refine Eq.trans (congrArg (fun r : Result PUnit => r.andThen _) (?_ : _ = Result.ok PUnit.unit w)) rfl
                have hl : ∀ j ∈ List.range' 0 len 1, j < len := fun j hj => by simpa using (List.mem_range'_1.1 hj).2
                generalize List.range' 0 len 1 = ll at hl
                induction ll with
                | nil => rfl
                | cons j ll ihl =>
                  have hj := hl j (by simp)
                  obtain ⟨y, b1, b2⟩ := hall j hj
                  rw [Nat.zero_add] at b1
                  obtain ⟨y', p1, p2⟩ := cpart_sound (P := P) (w := w) b1 ⟨hlv, hh⟩ hi rfl hue rfl
                  have := ih el d' hd m hm' n (by omega) e y y' b2 p2
                  rw [List.forIn_cons]
                  simp only [Sem.run_bind, hs, p1, this, Result.andThen_ok, Sem.run_pure]
                  exact ihl (fun j' hj' => hl j' (by simp [hj']))
          · cases hx
        · cases h
      · cases h
    · cases h
end
end Sim
