import Derived.Test.YtfojoloiahhphaaGreatDoorSimOp1
import Derived.ChangeKeysEq
import Derived.Stop.BytesEq
/- Sim, part 7: what is comparable, and what '==' says. -/
namespace Sim
open Go

mutual
inductive EqD where
  | bool | int | str | ptr | iface | slice | map | func
  | bytes (len : Nat)
  | struct (fs : EqF)
  | array (len size : Nat) (agg : Bool) (e : EqD)
inductive EqF where
  | nil
  | cons (off size : Nat) (agg : Bool) (d : EqD) (r : EqF)
end

noncomputable def bpeq (p : Bp) (q : Bp) : Bool := Nat.beq p.dec q.dec
theorem bpeq_iff (p : Bp) : ∀ q, bpeq p q = true ↔ p = q := by
  intro q
  unfold bpeq; rw [Nat.beq_eq]; exact ⟨Bp.dec_inj p q, fun h => by rw [h]⟩

noncomputable def cpart (agg : Bool) (off size : Nat) (s : Segs CV) : Option CV :=
  bsel agg (Option.rec none (fun t => some (.agg t)) (s.extract off size)) (s.get byteV off)

/-- All of a list of questions, one by one. -/
noncomputable def andThen (a : Option Bool) (b : Option Bool) : Option Bool := Option.rec none (fun t => bsel t b (some false)) a
mutual
noncomputable def ceq : EqD → CV → CV → Option Bool
  | .bool, x, y => (match x, y with | .bool a, .bool b => some (Bool.rec (Bool.not b) b a) | _, _ => none)
  | .int, x, y => (match x, y with | .int j a, .int k b => bsel (kbeq j k) (some (zeq a b)) none | _, _ => none)
  | .str, x, y => (match x, y with | .str n a, .str m b => some (seq n a m b) | _, _ => none)
  | .ptr, x, y => (match x, y with
    | .nilptr, .nilptr => some true
    | .nilptr, .ptr _ _ => some false
    | .ptr _ _, .nilptr => some false
    | .ptr b o, .ptr b' o' => bsel (bpeq b b') (some (Nat.beq o o')) none
    | _, _ => none)
  | .iface, x, y => (match x, y with
    | .niliface, .niliface => some true
    | .niliface, .iface _ _ => some false
    | .iface _ _, .niliface => some false
    | _, _ => none)
  | .slice, x, y => (match x, y with
    | .nilslice, .nilslice => some true
    | .nilslice, .slice .. => some false
    | .slice .., .nilslice => some false
    | _, _ => none)
  | .map, x, y => (match x, y with
    | .nilmap, .nilmap => some true
    | .nilmap, .map _ => some false
    | .map _, .nilmap => some false
    | _, _ => none)
  | .func, x, y => (match x, y with
    | .nilfunc, .nilfunc => some true
    | .nilfunc, .func .. => some false
    | .func .., .nilfunc => some false
    | _, _ => none)
  | .bytes len, x, y => (match x, y with
    | .agg (.bytes n a .nil), .agg (.bytes m b .nil) => bsel (Bool.and (Nat.beq n len) (Nat.beq m len)) (some (Nat.beq (bTake a n) (bTake b n))) none
    | _, _ => none)
  | .struct fs, x, y => (match x, y with | .agg s, .agg t => ceqF fs s t | _, _ => none)
  | .array len size agg e, x, y => (match x, y with
    | .agg s, .agg t => Nat.rec (motive := fun _ => Nat → Option Bool) (fun _ => some true)
        (fun _ ih off => Option.rec none (fun a => Option.rec none (fun b => andThen (ceq e a b) (ih (Nat.add off size))) (cpart agg off size t)) (cpart agg off size s)) len 0
    | _, _ => none)
noncomputable def ceqF : EqF → Segs CV → Segs CV → Option Bool
  | .nil, _, _ => some true
  | .cons off size agg d r, s, t => Option.rec none (fun a => Option.rec none (fun b => andThen (ceq d a b) (ceqF r s t)) (cpart agg off size t)) (cpart agg off size s)
end

def aggOf (u : TypeDesc) : Bool := match u with | .struct _ | .array _ _ => true | _ => false
noncomputable def fieldsD (P : Program) (desc : TypeId → Option EqD) (fs : List Field) : Option EqF :=
  match fs with
  | [] => some .nil
  | f :: r =>
    match decide (f.name = "_"), P.info? f.type, (P.underlying f.type), desc f.type, fieldsD P desc r with
    | false, some i, some u, some d, some r => some (.cons f.offset i.size (aggOf u) d r)
    | _, _, _, _, _ => none
noncomputable def eqDesc (P : Program) : Nat → TypeId → Option EqD
  | 0, _ => none
  | n + 1, t =>
    match P.underlying t with
    | some .bool => some .bool
    | some (.int _) => some .int
    | some .string => some .str
    | some (.pointer e) => (match P.info? e with | some i => bsel (Nat.beq i.size 0) none (some .ptr) | none => none)
    | some (.interface _) => some .iface
    | some (.slice _) => some .slice
    | some (.map _ _) => some .map
    | some (.func _ _ _) => some .func
    | some (.struct fs) => bsel (P.stoodInHeld t) none (match fieldsD P (eqDesc P n) fs.toList with | some l => some (.struct l) | none => none)
    | some (.array len e) =>
      (match P.info? e, P.underlying e with
      | some i, some (.int .u8) => bsel (Nat.beq i.size 1) (some (.bytes len)) none
      | some i, some u => (match eqDesc P n e with | some d => some (.array len i.size (aggOf u) d) | none => none)
      | _, _ => none)
    | _ => none

section
variable {P : Program} {ρ : Ren} {w : World}

theorem cpart_sound {agg : Bool} {off size : Nat} {s : Segs CV} {x : CV} (h : cpart agg off size s = some x) {l : List Value} (hs : VRs ρ (row s) l) {t : TypeId} {i : TypeInfo} {u : TypeDesc}
    (hi : P.info? t = some i) (hn : i.size = size) (hu : P.underlying t = some u) (ha : (aggOf u) = agg) :
    ∃ x', (part t l.toArray off).run P w = .ok x' w ∧ VR ρ x x' := by
  have h1 : (isAgg t).run P w = .ok agg w := by
    subst ha
    cases u <;> simp [isAgg, run_underlying hu, aggOf]
  unfold cpart at h
  rw [bsel_eq] at h
  split at h
  · rename_i hb
    cases he : s.extract off size with
    | none => rw [he] at h; cases h
    | some y =>
      rw [he] at h; cases h
      obtain ⟨g1, g2⟩ := Segs.extract_some he
      refine ⟨.agg ((l.drop off).take size).toArray, ?_, VR.agg' ?_⟩
      · simp [part, h1, hb, Go.sizeOf, typeInfo, hi, hn]
      · rw [show row y = ((row s).drop off).take size from g2 byteV]
        exact (hs.drop off).take size
  · rename_i hb
    obtain ⟨x', g1, g2⟩ := row_get hs h
    have hb' : agg = false := by simpa using hb
    exact ⟨x', by simp [part, h1, hb', g1], g2⟩

theorem info_of_underlying {t : TypeId} {u : TypeDesc} (h : P.underlying t = some u) : ∃ i, P.info? t = some i := by
  unfold Program.underlying at h
  split at h
  · exact ⟨_, by assumption⟩
  · exact ⟨_, by assumption⟩
  · cases h

theorem cell_u8 (n : Nat) (v : Nat) : (ub n v).map (fun x : Nat => Value.int .u8 (x : Int)) = ((ub n v).map UInt8.ofNat).map Extern.Stop.cell := by
  rw [List.map_map]
  apply List.map_congr_left
  intro x hx
  have := ub_lt n v x hx
  simp only [Function.comp_def, Extern.Stop.cell, UInt8.toNat_ofNat']
  rw [Nat.mod_eq_of_lt (show x < 2 ^ 8 by omega)]; rfl

theorem VR.bytes_inv {n a : Nat} {x' : Value} (h : VR ρ (.agg (.bytes n a .nil)) x') : x' = .agg (((ub n a).map UInt8.ofNat).map Extern.Stop.cell).toArray := by
  cases h with
  | agg s l hl hh =>
    congr 2
    rw [← cell_u8]
    apply List.ext_getElem?
    intro i
    have hr : row (.bytes n a .nil) = (ub n a).map byteV := by simp [row, Segs.cells]
    rw [hr] at hl hh
    simp only [List.length_map, ub_length] at hl
    by_cases hi : i < n
    · have h1 : ((ub n a).map byteV)[i]? = some (byteV (a / 256 ^ i % 256)) := by rw [List.getElem?_map, ub_getElem?, if_pos hi]; rfl
      have h2 := hh i _ l[i] h1 (by simp)
      cases h2h : l[i] with
      | int k m =>
        rw [h2h] at h2
        cases h2
        rw [List.getElem?_map, ub_getElem?, if_pos hi, List.getElem?_eq_getElem (by omega), h2h]; rfl
      | _ => rw [h2h] at h2; cases h2
    · rw [List.getElem?_eq_none (by omega), List.getElem?_eq_none (by simp; omega)]

/-- What 'ceq' says the model's '==' says: at a description of the type. -/
def EqFine (P : Program) (w : World) (ρ : Ren) (d : EqD) (t : TypeId) (n : Nat) : Prop :=
  ∀ (x y : CV) (x' y' : Value) (b : Bool), ceq d x y = some b → VR ρ x x' → VR ρ y y' → (Op.equalIn n t x' y').run P w = .ok b w

theorem ceqA_sound (len size : Nat) (agg : Bool) (e : EqD) {t : TypeId} {i : TypeInfo} {u : TypeDesc} {n : Nat} (hi : P.info? t = some i) (hn : i.size = size) (hu : P.underlying t = some u)
    (ha : (aggOf u) = agg) (hf : EqFine P w ρ e t n) {s s2 : Segs CV} {l l2 : List Value} (h1 : VRs ρ (row s) l) (h2 : VRs ρ (row s2) l2) :
    ∀ (j : Nat) (b : Bool), Nat.rec (motive := fun _ => Nat → Option Bool) (fun _ => some true)
        (fun _ ih off => Option.rec none (fun a => Option.rec none (fun b => andThen (ceq e a b) (ih (Nat.add off size))) (cpart agg off size s2)) (cpart agg off size s)) len (j * size) = some b →
      (Op.eqItems n t size l.toArray l2.toArray (List.range' j len)).run P w = .ok b w := by
  induction len with
  | zero => intro j b h; cases h; simp [Op.eqItems]
  | succ len ih =>
    intro j b h
    rw [List.range'_succ]
    simp only at h
    cases hx : cpart agg (j * size) size s with
    | none => rw [hx] at h; cases h
    | some x =>
      cases hy : cpart agg (j * size) size s2 with
      | none => rw [hx, hy] at h; cases h
      | some y =>
        rw [hx, hy] at h
        simp only at h
        cases hq : ceq e x y with
        | none => rw [hq] at h; cases h
        | some q =>
          rw [hq] at h
          obtain ⟨x', p1, v1⟩ := cpart_sound (P := P) (w := w) hx h1 hi hn hu ha
          obtain ⟨y', p2, v2⟩ := cpart_sound (P := P) (w := w) hy h2 hi hn hu ha
          have hr := hf x y x' y' q hq v1 v2
          simp only [Op.eqItems, Sem.run_bind, p1, p2, hr, Result.andThen_ok]
          cases q with
          | false => cases h; simp
          | true =>
            have := ih (j + 1) b (by rw [Nat.add_mul, Nat.one_mul]; exact h)
            simpa using this

theorem ceqF_sound {n : Nat} {desc : TypeId → Option EqD} (hf : ∀ t d, desc t = some d → EqFine P w ρ d t n) {s s2 : Segs CV} {l l2 : List Value} (h1 : VRs ρ (row s) l) (h2 : VRs ρ (row s2) l2) :
    ∀ (fs : List Field) (r : EqF) (b : Bool), fieldsD P desc fs = some r → ceqF r s s2 = some b → (Op.eqFields n l.toArray l2.toArray fs).run P w = .ok b w := by
  intro fs
  induction fs with
  | nil => intro r b h hb; cases h; simp only [ceqF, Option.some.injEq] at hb; subst hb; simp [Op.eqFields]
  | cons f fs ih =>
    intro r b h hb
    simp only [fieldsD] at h
    split at h
    · rename_i i u d r' hne hi hu hd hr
      cases h
      have hne' : f.name ≠ "_" := by simpa using hne
      simp only [ceqF] at hb
      cases hx : cpart (aggOf u) f.offset i.size s with
      | none => rw [hx] at hb; cases hb
      | some x =>
        cases hy : cpart (aggOf u) f.offset i.size s2 with
        | none => rw [hx, hy] at hb; cases hb
        | some y =>
          rw [hx, hy] at hb
          simp only at hb
          cases hq : ceq d x y with
          | none => rw [hq] at hb; cases hb
          | some q =>
            rw [hq] at hb
            obtain ⟨x', p1, v1⟩ := cpart_sound (P := P) (w := w) hx h1 hi rfl hu rfl
            obtain ⟨y', p2, v2⟩ := cpart_sound (P := P) (w := w) hy h2 hi rfl hu rfl
            have hrun := hf f.type d hd x y x' y' q hq v1 v2
            simp only [Op.eqFields, hne', ne_eq, not_false_eq_true, if_true, Sem.run_bind, p1, p2, hrun, Result.andThen_ok]
            cases q with
            | false => cases hb; simp
            | true => simpa using ih r' b hr hb
    · cases h

theorem eqFine : ∀ (f : Nat) (t : TypeId) (d : EqD), eqDesc P f t = some d → ∀ n, f < n → EqFine P w ρ d t n := by
  intro f
  induction f with
  | zero => intro t d h; cases h
  | succ f ih =>
    intro t d h n hn x y x' y' b hb hx hy
    obtain ⟨m, rfl⟩ : ∃ m, n = m + 1 := ⟨n - 1, by omega⟩
    simp only [eqDesc] at h
    split at h
    · -- bool
      rename_i hu; cases h
      simp only [ceq] at hb
      split at hb
      · cases hx; cases hy; cases hb
        rename_i a b
        rw [run_equalIn_bool' w m t a b hu]; cases a <;> cases b <;> rfl
      · cases hb
    · rename_i k hu; cases h
      simp only [ceq] at hb
      split at hb
      · rw [bsel_eq] at hb
        split at hb
        · rename_i hk
          rw [kbeq_iff] at hk; subst hk
          cases hx; cases hy; cases hb
          rw [run_equalIn_int w m t _ _ _ _ hu, zeq_eq]
        · cases hb
      · cases hb
    · rename_i hu; cases h
      simp only [ceq] at hb
      split at hb
      · cases hx; cases hy; cases hb
        rename_i n1 a n2 b
        rw [run_equalIn_string w m t _ _ hu]
        congr 1
        rw [Bool.eq_iff_iff, seq_iff, beq_iff_eq, ByteArray.toList_eq, ByteArray.toList_eq]
        constructor
        · intro h
          unfold strB at h ⊢
          simp only [ByteArray.mk.injEq]
          exact congrArg List.toArray h
        · intro h; rw [h]
      · cases hb
    · rename_i e hu
      split at h
      · rename_i i hi
        rw [bsel_eq] at h
        split at h
        · cases h
        · rename_i hz
          cases h
          have hz' : i.size ≠ 0 := by simpa using hz
          have hs : (Go.sizeOf e).run P w = .ok i.size w := by simp [Go.sizeOf, typeInfo, hi]
          simp only [ceq] at hb
          split at hb
          · cases hx; cases hy; cases hb; simp [Op.equalIn, run_underlying hu]
          · cases hx; cases hy; cases hb; simp [Op.equalIn, run_underlying hu]
          · cases hx; cases hy; cases hb; simp [Op.equalIn, run_underlying hu]
          · rename_i b1 o1 b2 o2
            rw [bsel_eq] at hb
            split at hb
            · rename_i hq
              rw [bpeq_iff] at hq; subst hq
              cases hx with | ptr _ _ r sz hr => cases hy with | ptr _ _ r2 sz2 hr2 =>
                rw [hr] at hr2; cases hr2; cases hb
                have e : ((⟨r, o1, none⟩ : Addr) == ⟨r, o2, none⟩) = Nat.beq o1 o2 := by
                  rw [Bool.eq_iff_iff, beq_iff_eq, Nat.beq_eq]; simp
                simp [Op.equalIn, run_underlying hu, hs, hz', sameAddr, e]
            · cases hb
          · cases hb
      · cases h
    · rename_i ms hu; cases h
      simp only [ceq] at hb
      split at hb
      · cases hx; cases hy; cases hb; simp [Op.equalIn, run_underlying hu]
      · cases hx; cases hy; cases hb; simp [Op.equalIn, run_underlying hu]
      · cases hx; cases hy; cases hb; simp [Op.equalIn, run_underlying hu]
      · cases hb
    · rename_i e hu; cases h
      simp only [ceq] at hb
      split at hb
      · cases hx; cases hy; cases hb; simp [Op.equalIn, run_underlying hu]
      · cases hx; cases hy <;> cases hb <;> simp [Op.equalIn, run_underlying hu]
      · cases hy; cases hx <;> cases hb <;> simp [Op.equalIn, run_underlying hu]
      · cases hb
    · rename_i k e hu; cases h
      simp only [ceq] at hb
      split at hb
      · cases hx; cases hy; cases hb; simp [Op.equalIn, run_underlying hu]
      · cases hx; cases hy; cases hb; simp [Op.equalIn, run_underlying hu]
      · cases hx; cases hy; cases hb; simp [Op.equalIn, run_underlying hu]
      · cases hb
    · rename_i ps rs vv hu; cases h
      simp only [ceq] at hb
      split at hb
      · cases hx; cases hy; cases hb; simp [Op.equalIn, run_underlying hu]
      · cases hx; cases hy; cases hb; simp [Op.equalIn, run_underlying hu]
      · cases hx; cases hy; cases hb; simp [Op.equalIn, run_underlying hu]
      · cases hb
    · -- struct
      rename_i fs hu
      rw [bsel_eq] at h
      split at h
      · cases h
      · rename_i hst
        have hst' : P.stoodInHeld t = false := by simpa using hst
        split at h
        · rename_i l hl
          cases h
          simp only [ceq] at hb
          split at hb
          · rename_i s1 s2
            cases hx with | agg _ l1 hl1 hh1 => cases hy with | agg _ l2 hl2 hh2 =>
              have hfo : P.fieldsOf t = fs := by simp [Program.fieldsOf, hu]
              rw [run_equalIn_agg w m t _ _ (by rw [hfo]; exact hu) hst', hfo]
              exact ceqF_sound (fun t' d' hd => ih t' d' hd m (by omega)) ⟨hl1, hh1⟩ ⟨hl2, hh2⟩ fs.toList l b hl hb
          · cases hb
        · cases h
    · -- array
      rename_i len e hu
      split at h
      · rename_i i hi hue
        rw [bsel_eq] at h
        split at h
        · rename_i h1
          rw [Nat.beq_eq] at h1
          cases h
          simp only [ceq] at hb
          split at hb
          · rename_i n1 a n2 b2
            rw [bsel_eq] at hb
            split at hb
            · rename_i hq
              simp only [Bool.and_eq_true, Nat.beq_eq] at hq
              obtain ⟨rfl, rfl⟩ := hq
              cases hb
              rw [hx.bytes_inv, hy.bytes_inv]
              obtain ⟨m', rfl⟩ : ∃ m', m = m' + 1 := ⟨m - 1, by omega⟩
              rw [run_equalIn_bytes w m' t e n2 hu hue (fun w => by simp [Go.sizeOf, typeInfo, hi, h1]) _ _ (by simp) (by simp)]
              congr 1
              rw [Bool.eq_iff_iff, Nat.beq_eq, beq_iff_eq, bTake_eq, bTake_eq]
              constructor
              · intro h; exact ub_inj n2 a b2 (ofNat_inj _ _ (ub_lt _ _) (ub_lt _ _) h)
              · intro h; rw [← ub_mod n2 a, ← ub_mod n2 b2, h]
            · cases hb
          · cases hb
        · cases h
      · rename_i i u hne hi hue
        split at h
        · rename_i d' hd
          cases h
          simp only [ceq] at hb
          split at hb
          · rename_i s1 s2
            cases hx with | agg _ l1 hl1 hh1 => cases hy with | agg _ l2 hl2 hh2 =>
              rw [run_equalIn_array w m _ _ hu hi, List.range_eq_range']
              have hcs : P.cellsOf e = i.size := by simp [Program.cellsOf, hi]
              rw [hcs]
              have := ceqA_sound (P := P) (w := w) (ρ := ρ) len i.size _ d' hi rfl hue rfl (ih e d' hd m (by omega)) (s := s1) (s2 := s2) (l := l1) (l2 := l2) ⟨hl1, hh1⟩ ⟨hl2, hh2⟩ 0 b (by simpa using hb)
              exact this
          · cases hb
        · cases h
      · cases h
    · cases h
end
end Sim
