import Derived.Test.YtfojoloiahhphaaGreatDoorSimOp3
/- Sim, part 10: slicing, indexing, addresses, len. -/
namespace Sim
open Go

section
variable {P : Program} {ρ : Ren} {st st' : St} {w : World} {v : CV}

/-- A bound of a slice expression: from 0 to y. -/
noncomputable def bnd (x : Option CV) (dflt y : Nat) : Option Nat :=
  match x with
  | none => some dflt
  | some (.int _ (.ofNat n)) => bsel (Nat.ble n y) (some n) none
  | _ => none
theorem bnd_some {x : CV} {x' : Value} {dflt y n : Nat} (h : bnd (some x) dflt y = some n) (hx : VR ρ x x') {Y : Nat} (hY : y ≤ Y) (code : BoundsCode) :
    (Instr.sliceBound x' Y code).run P w = .ok n w ∧ n ≤ y := by
  unfold bnd at h
  split at h
  · rename_i e; cases e
  · rename_i k m e
    cases e
    simp only [bsel_eq, Nat.ble_eq] at h
    split at h
    · rename_i hle
      cases h; cases hx
      refine ⟨?_, hle⟩
      have h1 : (0 : Int) ≤ Int.ofNat n ∧ Int.ofNat n ≤ (Y : Int) := ⟨Int.natCast_nonneg _, by show (n : Int) ≤ Y; omega⟩
      simp only [Instr.sliceBound, asIntOf, Sem.run_bind, Sem.run_pure, Result.andThen_ok, Sem.run_ite, if_pos h1]
      rfl
    · cases h
  · cases h

/-- The operands of a slice expression, on both sides. -/
def BR2 (ρ : Ren) (x : Option CV) (x' : Option Value) : Prop := match x, x' with | none, none => True | some x, some x' => VR ρ x x' | _, _ => False

/-- low and high. -/
noncomputable def bnds (lo hi : Option CV) (len cap : Nat) : Option (Nat × Nat) :=
  match bnd hi len cap with
  | some h => (match bnd lo 0 h with | some l => some (l, h) | none => none)
  | none => none

theorem sliceBounds2 {isSlice : Bool} {lo hi : Option CV} {lo' hi' : Option Value} {len cap cap' l h : Nat} (hb : bnds lo hi len cap = some (l, h)) (h1 : BR2 ρ lo lo') (h2 : BR2 ρ hi hi') (hc : cap ≤ cap')
    (hl : hi = none → len ≤ cap) : (Instr.sliceBounds isSlice len cap' lo' hi' none).run P w = .ok (l, h, cap') w ∧ l ≤ h ∧ h ≤ cap := by
  unfold bnds at hb
  cases e1 : bnd hi len cap with
  | none => rw [e1] at hb; cases hb
  | some h0 =>
    rw [e1] at hb
    cases e2 : bnd lo 0 h0 with
    | none => dsimp only at hb; rw [e2] at hb; cases hb
    | some l0 =>
      dsimp only at hb; rw [e2] at hb
      cases hb
      have H : h ≤ cap := by
        cases hi with
        | none => cases e1; exact hl rfl
        | some x => cases hi' with
          | none => exact h2.elim
          | some x' => exact (bnd_some (P := P) (w := w) e1 h2 (Nat.le_refl _) .index).2
      have L : l ≤ h := by
        cases lo with
        | none => cases e2; omega
        | some x => cases lo' with
          | none => exact h1.elim
          | some x' => exact (bnd_some (P := P) (w := w) e2 h1 (Nat.le_refl _) .index).2
      refine ⟨?_, L, H⟩
      cases hi with
      | none =>
        cases hi' with
        | some _ => exact h2.elim
        | none =>
          cases e1
          cases lo with
          | none => cases lo' with
            | some _ => exact h1.elim
            | none => cases e2; simp [Instr.sliceBounds]
          | some x => cases lo' with
            | none => exact h1.elim
            | some x' => simp [Instr.sliceBounds, (bnd_some (P := P) (w := w) e2 h1 (Nat.le_refl _) .sliceB).1]
      | some y =>
        cases hi' with
        | none => exact h2.elim
        | some y' =>
          have E1 : ∀ code, (Instr.sliceBound y' cap' code).run P w = .ok h w := fun code => (bnd_some (P := P) (w := w) e1 h2 hc code).1
          cases lo with
          | none => cases lo' with
            | some _ => exact h1.elim
            | none => cases e2; cases isSlice <;> simp [Instr.sliceBounds, E1]
          | some x => cases lo' with
            | none => exact h1.elim
            | some x' => cases isSlice <;> simp [Instr.sliceBounds, E1, (bnd_some (P := P) (w := w) e2 h1 (Nat.le_refl _) .sliceB).1]

/- strings -/
noncomputable def pSliceStr (x : CV) (lo hi : Option CV) (st : St) : OR :=
  match x with
  | .str n a => (match bnds lo hi n n with | some (l, h) => forceN (Nat.sub h l) fun k => forceN (bTake (bDrop a l) k) fun r => .ok (.str k r) st | none => .bad)
  | _ => .bad
theorem strB_extract (n a l h : Nat) (h1 : l ≤ h) (h2 : h ≤ n) : (strB n a).extract l h = strB (h - l) (bTake (bDrop a l) (h - l)) := by
  rw [bTake_eq, bDrop_eq]
  unfold strB
  rw [ub_mod]
  apply ByteArray.ext
  rw [ByteArray.data_extract]
  apply Array.ext'
  simp only [Array.toList_extract, List.extract_eq_take_drop]
  rw [← List.map_drop, ub_drop n l a (by omega), ← List.map_take, ub_take _ _ _ (by omega)]
theorem pSliceStr_sound {t : TypeId} {x : CV} {x' : Value} {lo hi : Option CV} {lo' hi' : Option Value} (h : pSliceStr x lo hi st = .ok v st') (hw : WR ρ st w) (hx : VR ρ x x') (h1 : BR2 ρ lo lo') (h2 : BR2 ρ hi hi')
    (hu : P.underlying t = some .string) : DoesV P (Instr.sliceAt t x' lo' hi' none) ρ st w v st' := by
  unfold pSliceStr at h
  split at h
  · rename_i n a
    split at h
    · rename_i l k hb
      rw [forceN_eq, forceN_eq] at h; cases h; cases hx
      obtain ⟨b1, b2, b3⟩ := sliceBounds2 (P := P) (w := w) (isSlice := false) hb h1 h2 (Nat.le_refl _) (fun _ => Nat.le_refl _)
      refine DoesV.still hw (v' := .string ((strB n a).extract l k)) ?_ (by rw [strB_extract n a l k b2 b3]; exact .str _ _)
      have e : (strB n a).size = n := strB_size n a
      simp [Instr.sliceAt, run_underlying hu, Instr.slice, e, b1]
    · cases h
  · cases h

/- slices -/
noncomputable def pSliceSl (size : Nat) (x : CV) (lo hi : Option CV) (st : St) : OR :=
  match x with
  | .nilslice => (match bnds lo hi 0 0 with | some _ => .ok .nilslice st | none => .bad)
  | .slice b off len cap grow => bsel (Nat.ble len cap) (match bnds lo hi len cap with
    | some (l, h) => forceN (Nat.sub h l) fun n => forceN (Nat.sub cap l) fun c =>
        bsel (Bool.and (Nat.beq grow 0) (Nat.beq l cap)) (.ok (.slice b off n c grow) st) (forceN (Nat.add off (Nat.mul l size)) fun o => bsel (Bool.or (Nat.beq grow 0) (Nat.beq grow size)) (.ok (.slice b o n c grow) st) .bad)
    | none => .bad) .bad
  | _ => .bad
theorem pSliceSl_sound {t e : TypeId} {size : Nat} {x : CV} {x' : Value} {lo hi : Option CV} {lo' hi' : Option Value} (h : pSliceSl size x lo hi st = .ok v st') (hw : WR ρ st w) (hx : VR ρ x x') (h1 : BR2 ρ lo lo') (h2 : BR2 ρ hi hi')
    (hu : P.underlying t = some (.slice e)) (hs : (Go.sizeOf e).run P w = .ok size w) : DoesV P (Instr.sliceAt t x' lo' hi' none) ρ st w v st' := by
  unfold pSliceSl at h
  split at h
  · split at h
    · rename_i lh hb
      obtain ⟨l, k⟩ := lh
      cases h; cases hx
      obtain ⟨b1, b2, b3⟩ := sliceBounds2 (P := P) (w := w) (isSlice := true) hb h1 h2 (Nat.le_refl _) (fun _ => Nat.le_refl _)
      have hk : k = 0 := by omega
      have hl : l = 0 := by omega
      subst hk; subst hl
      refine DoesV.still hw ?_ .nilslice
      simp [Instr.sliceAt, run_underlying hu, Instr.slice, b1, hs]
    · cases h
  · rename_i b off len cap grow
    rw [bsel_eq] at h
    split at h
    rotate_left
    · cases h
    rename_i hlc
    rw [Nat.ble_eq] at hlc
    split at h
    · rename_i l k hb
      rw [forceN_eq, forceN_eq] at h
      obtain ⟨r, sz, off', cap', rfl, hr, c1, c2, c3, c4⟩ := hx.slice_inv
      obtain ⟨b1, b2, b3⟩ := sliceBounds2 (P := P) (w := w) (isSlice := true) hb h1 h2 c2 (fun _ => hlc)
      have hrun : (Instr.sliceAt t (.slice (some ⟨r, off', none⟩) len cap') lo' hi' none).run P w =
          .ok (.slice (if cap' = l then some ⟨r, off', none⟩ else some ⟨r, off' + l * size, none⟩) (k - l) (cap' - l)) w := by
        simp [Instr.sliceAt, run_underlying hu, Instr.slice, b1, hs, addr_add]
      simp only [bsel_eq, Bool.and_eq_true, Bool.or_eq_true, Nat.beq_eq, forceN_eq] at h
      split at h
      · rename_i hg
        obtain ⟨hg, hl⟩ := hg
        cases h
        obtain ⟨e1, e2⟩ := c3 hg
        subst hg; subst e1; subst e2; subst hl
        refine DoesV.still hw hrun ?_
        rw [if_pos rfl]; exact .slice _ _ _ _ r sz hr
      · rename_i hng
        split at h
        · rename_i hg
          · cases h
            by_cases hz : grow = 0
            · obtain ⟨e1, e2⟩ := c3 hz
              subst hz; subst e1; subst e2
              refine DoesV.still hw hrun ?_
              rw [if_neg (fun e => hng ⟨rfl, e.symm⟩)]; exact .slice _ _ _ _ r sz hr
            · have hgs : grow = size := by rcases hg with hg | hg; exact absurd hg hz; exact hg
              obtain ⟨d1, d2⟩ := c4 (by omega)
              refine DoesV.still hw hrun ?_
              have key : ∀ o', o' + (cap' - l) * grow ≤ sz → (0 < cap - l → o' = off + l * size) →
                  VR ρ (.slice b (off + l * size) (k - l) (cap - l) grow) (.slice (some ⟨r, o', none⟩) (k - l) (cap' - l)) := fun o' ho1 ho2 =>
                .sliceG _ _ o' _ _ (cap' - l) grow r sz hr (by omega) (by omega) (by omega) ho2 ho1
              split
              · rename_i hcl
                exact key off' (by rw [hcl, Nat.sub_self, Nat.zero_mul]; omega) (by omega)
              · refine key (off' + l * size) ?_ (fun hp => by rw [c1 (by omega)])
                have : l * size + (cap' - l) * grow = cap' * grow := by
                  rw [hgs, ← Nat.add_mul]; congr 1; omega
                omega
        · cases h
    · cases h
  · cases h

/-- with a third index: the capacity is known behind it. -/
noncomputable def pSlice3 (size : Nat) (x : CV) (lo : Option CV) (hi mx : CV) (st : St) : OR :=
  match x with
  | .slice b off len cap grow => (match bnd (some mx) 0 cap with
    | some m => (match bnds lo (some hi) len m with
      | some (l, h) => bsel (Bool.or (Nat.beq grow 0) (Nat.ble (Nat.succ l) cap)) (forceN (Nat.sub h l) fun n => forceN (Nat.sub m l) fun c => bsel (Nat.beq m l) (.ok (.slice b off n c 0) st) (forceN (Nat.add off (Nat.mul l size)) fun o => .ok (.slice b o n c 0) st)) .bad
      | none => .bad)
    | none => .bad)
  | _ => .bad
theorem pSlice3_sound {t e : TypeId} {size : Nat} {x : CV} {x' : Value} {lo : Option CV} {lo' : Option Value} {hi mx : CV} {hi' mx' : Value} (h : pSlice3 size x lo hi mx st = .ok v st') (hw : WR ρ st w) (hx : VR ρ x x') (h1 : BR2 ρ lo lo') (h2 : VR ρ hi hi') (h3 : VR ρ mx mx')
    (hu : P.underlying t = some (.slice e)) (hs : (Go.sizeOf e).run P w = .ok size w) : DoesV P (Instr.sliceAt t x' lo' (some hi') (some mx')) ρ st w v st' := by
  unfold pSlice3 at h
  split at h
  · rename_i b off len cap grow
    split at h
    · rename_i m hm
      split at h
      · rename_i l k hb
        obtain ⟨r, sz, off', cap', rfl, hr, c1, c2, c3, c4⟩ := hx.slice_inv
        obtain ⟨m1, m2⟩ := bnd_some (P := P) (w := w) hm h3 c2 .slice3Acap
        unfold bnds at hb
        cases e1 : bnd (some hi) len m with
        | none => rw [e1] at hb; cases hb
        | some h0 =>
          rw [e1] at hb
          cases e2 : bnd lo 0 h0 with
          | none => dsimp only at hb; rw [e2] at hb; cases hb
          | some l0 =>
            dsimp only at hb; rw [e2] at hb; cases hb
            obtain ⟨k1, k2⟩ := bnd_some (P := P) (w := w) e1 h2 (Nat.le_refl _) .slice3B
            have hl : l ≤ k ∧ (Instr.sliceBounds true len cap' lo' (some hi') (some mx')).run P w = .ok (l, k, m) w := by
              cases lo with
              | none => cases lo' with
                | some _ => exact h1.elim
                | none => cases e2; exact ⟨by omega, by simp [Instr.sliceBounds, m1, k1]⟩
              | some y => cases lo' with
                | none => exact h1.elim
                | some y' =>
                  obtain ⟨l1, l2⟩ := bnd_some (P := P) (w := w) e2 h1 (Nat.le_refl _) .slice3C
                  exact ⟨l2, by simp [Instr.sliceBounds, m1, k1, l1]⟩
            have hrun : (Instr.sliceAt t (.slice (some ⟨r, off', none⟩) len cap') lo' (some hi') (some mx')).run P w =
                .ok (.slice (if m = l then some ⟨r, off', none⟩ else some ⟨r, off' + l * size, none⟩) (k - l) (m - l)) w := by
              simp [Instr.sliceAt, run_underlying hu, Instr.slice, hl.2, hs, addr_add]
            simp only [bsel_eq, Bool.or_eq_true, Nat.beq_eq, Nat.ble_eq, forceN_eq] at h
            split at h
            · rename_i hg
              have ho : off' = off := by
                rcases hg with hg | hg
                · exact (c3 hg).2
                · exact c1 (by omega)
              subst ho
              split at h
              · rename_i hml
                cases h
                refine DoesV.still hw hrun ?_
                rw [if_pos hml]; exact .slice _ _ _ _ r sz hr
              · rename_i hml
                cases h
                refine DoesV.still hw hrun ?_
                rw [if_neg hml]; exact .slice _ _ _ _ r sz hr
            · cases h
      · cases h
    · cases h
  · cases h

/- arrays that are addressed -/
noncomputable def pSliceArr (n size : Nat) (x : CV) (lo hi : Option CV) (st : St) : OR :=
  match x with
  | .ptr b off => (match bnds lo hi n n with
    | some (l, h) => forceN (Nat.sub h l) fun k => forceN (Nat.sub n l) fun c => bsel (Nat.beq n l) (.ok (.slice b off k c 0) st) (forceN (Nat.add off (Nat.mul l size)) fun o => .ok (.slice b o k c 0) st)
    | none => .bad)
  | _ => .bad
theorem pSliceArr_sound {t e : TypeId} {n size : Nat} {x : CV} {x' : Value} {lo hi : Option CV} {lo' hi' : Option Value} (h : pSliceArr n size x lo hi st = .ok v st') (hw : WR ρ st w) (hx : VR ρ x x') (h1 : BR2 ρ lo lo') (h2 : BR2 ρ hi hi')
    (hu : P.underlying t = some (.array n e)) (hs : (Go.sizeOf e).run P w = .ok size w) : DoesV P (Instr.sliceAt t x' lo' hi' none) ρ st w v st' := by
  unfold pSliceArr at h
  split at h
  · rename_i b off
    split at h
    · rename_i l k hb
      cases hx with
      | ptr _ _ r sz hr =>
        obtain ⟨b1, b2, b3⟩ := sliceBounds2 (P := P) (w := w) (isSlice := false) hb h1 h2 (Nat.le_refl _) (fun _ => Nat.le_refl _)
        have hrun : (Instr.sliceAt t (.pointer (some ⟨r, off, none⟩)) lo' hi' none).run P w =
            .ok (.slice (some (if n = l then ⟨r, off, none⟩ else ⟨r, off + l * size, none⟩)) (k - l) (n - l)) w := by
          simp [Instr.sliceAt, run_underlying hu, Instr.sureAddr, b1, hs, addr_add]
        simp only [bsel_eq, Nat.beq_eq, forceN_eq] at h
        split at h
        · rename_i hnl
          cases h
          refine DoesV.still hw hrun ?_
          rw [if_pos hnl]; exact .slice _ _ _ _ r sz hr
        · rename_i hnl
          cases h
          refine DoesV.still hw hrun ?_
          rw [if_neg hnl]; exact .slice _ _ _ _ r sz hr
    · cases h
  · cases h

/- a slice as an array -/
noncomputable def pS2ap (n : Nat) (x : CV) (st : St) : OR :=
  match x with | .slice b off len cap grow => bsel (Bool.and (Nat.ble n len) (Bool.or (Nat.beq grow 0) (Bool.and (Nat.ble 1 cap) (Nat.ble len cap)))) (.ok (.ptr b off) st) .bad | _ => .bad
theorem pS2ap_sound {t e : TypeId} {n : Nat} {x : CV} {x' : Value} (h : pS2ap n x st = .ok v st') (hw : WR ρ st w) (hx : VR ρ x x') (hu : P.underlying t = some (.array n e)) : DoesV P (Instr.arrayAt t x') ρ st w v st' := by
  unfold pS2ap at h
  split at h
  · rename_i b off len cap grow
    simp only [bsel_eq, Bool.and_eq_true, Bool.or_eq_true, Nat.beq_eq, Nat.ble_eq] at h
    split at h
    · rename_i hg
      cases h
      obtain ⟨r, sz, off', cap', rfl, hr, c1, c2, c3, c4⟩ := hx.slice_inv
      have ho : off' = off := by
        rcases hg.2 with hg | hg
        · exact (c3 hg).2
        · exact c1 (by omega)
      subst ho
      refine DoesV.still hw ?_ (.ptr _ _ r sz hr)
      have : ¬ len < n := by omega
      simp [Instr.arrayAt, run_underlying hu, this]
    · cases h
  · cases h

/- fields -/
noncomputable def pFieldAddr (off : Nat) (x : CV) (st : St) : OR := match x with | .ptr b o => forceN (Nat.add o off) fun o => .ok (.ptr b o) st | _ => .bad
theorem pFieldAddr_sound {t : TypeId} {i : Nat} {fs : Array Field} {f : Field} {off n : Nat} {x : CV} {x' : Value} (h : pFieldAddr off x st = .ok v st') (hw : WR ρ st w) (hx : VR ρ x x') (hu : P.underlying t = some (.struct fs))
    (hf : fs[i]? = some f) (ho : f.offset = off) (hs : (Go.sizeOf f.type).run P w = .ok n w) (hn : n ≠ 0) : DoesV P (Instr.fieldAt t x' i) ρ st w v st' := by
  unfold pFieldAddr at h
  split at h
  · rename_i b o
    rw [forceN_eq] at h; cases h
    cases hx with
    | ptr _ _ r sz hr =>
      refine DoesV.still hw ?_ (.ptr _ _ r sz hr)
      simp [Instr.fieldAt, run_underlying hu, hf, Instr.sureAddr, fieldPlace, hs, hn, addr_add, ho]
  · cases h
noncomputable def pField (agg : Bool) (off size : Nat) (x : CV) (st : St) : OR := match x with | .agg s => Option.rec .bad (fun v => .ok v st) (cpart agg off size s) | _ => .bad
theorem pField_sound {t : TypeId} {i : Nat} {fs : Array Field} {f : Field} {ti : TypeInfo} {u : TypeDesc} {x : CV} {x' : Value} (h : pField (aggOf u) f.offset ti.size x st = .ok v st') (hw : WR ρ st w) (hx : VR ρ x x') (hu : P.underlying t = some (.struct fs))
    (hf : fs[i]? = some f) (hi : P.info? f.type = some ti) (hut : P.underlying f.type = some u) : DoesV P (Instr.field t x' i) ρ st w v st' := by
  unfold pField at h
  split at h
  · rename_i s
    cases hc : cpart (aggOf u) f.offset ti.size s with
    | none => rw [hc] at h; cases h
    | some y =>
      rw [hc] at h; cases h
      cases hx with
      | agg _ l hl hh =>
        obtain ⟨y', p1, p2⟩ := cpart_sound (P := P) (w := w) hc ⟨hl, hh⟩ hi rfl hut rfl
        refine DoesV.still hw ?_ p2
        simp [Instr.field, run_underlying hu, hf, asAgg, p1]
  · cases h

/- indexing -/
noncomputable def pIdxArr (n size : Nat) (x i : CV) (st : St) : OR :=
  match x, i with | .ptr b o, .int _ (.ofNat j) => bsel (Nat.ble (Nat.succ j) n) (forceN (Nat.add o (Nat.mul j size)) fun o => .ok (.ptr b o) st) .bad | _, _ => .bad
noncomputable def pIdxSl (size : Nat) (x i : CV) (st : St) : OR :=
  match x, i with | .slice b o len cap grow, .int _ (.ofNat j) => bsel (Bool.and (Nat.ble (Nat.succ j) len) (Bool.or (Nat.beq grow 0) (Nat.ble len cap))) (forceN (Nat.add o (Nat.mul j size)) fun o => .ok (.ptr b o) st) .bad | _, _ => .bad
theorem pIdxArr_sound {t e : TypeId} {n size : Nat} {x i : CV} {x' i' : Value} (h : pIdxArr n size x i st = .ok v st') (hw : WR ρ st w) (hx : VR ρ x x') (hi : VR ρ i i') (hu : P.underlying t = some (.array n e))
    (hs : (Go.sizeOf e).run P w = .ok size w) : DoesV P (Instr.indexAt t x' i') ρ st w v st' := by
  unfold pIdxArr at h
  split at h
  · rename_i b o k j
    simp only [bsel_eq, Nat.ble_eq, forceN_eq] at h
    split at h
    · rename_i hj
      cases h; cases hi
      cases hx with
      | ptr _ _ r sz hr =>
        refine DoesV.still hw ?_ (.ptr _ _ r sz hr)
        have h1 : (0 : Int) ≤ Int.ofNat j ∧ Int.ofNat j < (n : Int) := ⟨Int.natCast_nonneg _, by show (j : Int) < n; omega⟩
        simp only [Instr.indexAt, asIntOf, Sem.run_bind, Sem.run_pure, Result.andThen_ok, run_underlying hu, Instr.sureAddr, Sem.run_ite, if_pos h1, hs, addr_add]
        rfl
    · cases h
  · cases h
theorem pIdxSl_sound {t e : TypeId} {size : Nat} {x i : CV} {x' i' : Value} (h : pIdxSl size x i st = .ok v st') (hw : WR ρ st w) (hx : VR ρ x x') (hi : VR ρ i i') (hu : P.underlying t = some (.slice e))
    (hs : (Go.sizeOf e).run P w = .ok size w) : DoesV P (Instr.indexAt t x' i') ρ st w v st' := by
  unfold pIdxSl at h
  split at h
  · rename_i b o len cap grow k j
    simp only [bsel_eq, Bool.and_eq_true, Bool.or_eq_true, Nat.beq_eq, Nat.ble_eq, forceN_eq] at h
    split at h
    · rename_i hj
      cases h; cases hi
      obtain ⟨r, sz, off', cap', rfl, hr, c1, c2, c3, c4⟩ := hx.slice_inv
      have ho : off' = o := by
        rcases hj.2 with hg | hg
        · exact (c3 hg).2
        · exact c1 (by omega)
      subst ho
      refine DoesV.still hw ?_ (.ptr _ _ r sz hr)
      have h1 : (0 : Int) ≤ Int.ofNat j ∧ Int.ofNat j < (len : Int) := ⟨Int.natCast_nonneg _, by show (j : Int) < len; omega⟩
      simp only [Instr.indexAt, asIntOf, Sem.run_bind, Sem.run_pure, Result.andThen_ok, run_underlying hu, Sem.run_ite, if_pos h1, hs, addr_add]
      rfl
    · cases h
  · cases h
noncomputable def pIdxStr (x i : CV) (st : St) : OR :=
  match x, i with | .str n a, .int _ (.ofNat j) => bsel (Nat.ble (Nat.succ j) n) (forceN (bTake (bDrop a j) 1) (okN .u8 st)) .bad | _, _ => .bad
theorem pIdxStr_sound {t : TypeId} {x i : CV} {x' i' : Value} (h : pIdxStr x i st = .ok v st') (hw : WR ρ st w) (hx : VR ρ x x') (hi : VR ρ i i') (hu : P.underlying t = some .string) : DoesV P (Instr.index t x' i') ρ st w v st' := by
  unfold pIdxStr at h
  split at h
  · rename_i n a k j
    simp only [bsel_eq, Nat.ble_eq, forceN_eq] at h
    split at h
    · rename_i hj
      cases h; cases hi; cases hx
      refine DoesV.still hw ?_ (.int _ _)
      have h1 : (0 : Int) ≤ Int.ofNat j := Int.natCast_nonneg _
      have hget : (strB n a)[(Int.ofNat j).toNat]? = some (UInt8.ofNat (a / 256 ^ j % 256)) := by
        show (strB n a)[j]? = _
        have hlt : j < (strB n a).size := by rw [strB_size]; omega
        rw [getElem?_pos (strB n a) j hlt]
        congr 1
        have e1 : (strB n a)[j] = (strB n a).data.toList[j]'(by simpa using hlt) := rfl
        rw [e1]
        have e2 : (strB n a).data.toList[j]? = some (UInt8.ofNat (a / 256 ^ j % 256)) := by
          rw [strB_toList, List.getElem?_map, ub_getElem?, if_pos (by omega)]; rfl
        rw [List.getElem?_eq_getElem (by simpa using hlt)] at e2
        exact Option.some.inj e2
      simp only [Instr.index, asIntOf, Sem.run_bind, Sem.run_pure, Result.andThen_ok, run_underlying hu, if_pos h1, hget]
      have : (UInt8.ofNat (a / 256 ^ j % 256)).toNat = bTake (bDrop a j) 1 := by
        rw [bTake_eq, bDrop_eq, UInt8.toNat_ofNat']; simp
      rw [this]; rfl
    · cases h
  · cases h
noncomputable def pIdxAgg (n size : Nat) (agg : Bool) (x i : CV) (st : St) : OR :=
  match x, i with | .agg s, .int _ (.ofNat j) => bsel (Nat.ble (Nat.succ j) n) (Option.rec .bad (fun v => .ok v st) (cpart agg (Nat.mul j size) size s)) .bad | _, _ => .bad
theorem pIdxAgg_sound {t e : TypeId} {n : Nat} {ti : TypeInfo} {u : TypeDesc} {x i : CV} {x' i' : Value} (h : pIdxAgg n ti.size (aggOf u) x i st = .ok v st') (hw : WR ρ st w) (hx : VR ρ x x') (hi : VR ρ i i') (hu : P.underlying t = some (.array n e))
    (he : P.info? e = some ti) (hue : P.underlying e = some u) : DoesV P (Instr.index t x' i') ρ st w v st' := by
  unfold pIdxAgg at h
  split at h
  · rename_i s k j
    simp only [bsel_eq, Nat.ble_eq] at h
    split at h
    · rename_i hj
      cases hc : cpart (aggOf u) (Nat.mul j ti.size) ti.size s with
      | none => rw [hc] at h; cases h
      | some y =>
        rw [hc] at h; cases h; cases hi
        cases hx with
        | agg _ l hl hh =>
          obtain ⟨y', p1, p2⟩ := cpart_sound (P := P) (w := w) hc ⟨hl, hh⟩ he rfl hue rfl
          refine DoesV.still hw ?_ p2
          have h1 : (0 : Int) ≤ Int.ofNat j ∧ Int.ofNat j < (n : Int) := ⟨Int.natCast_nonneg _, by show (j : Int) < n; omega⟩
          have h2 : (Go.sizeOf e).run P w = .ok ti.size w := by simp [Go.sizeOf, typeInfo, he]
          simp only [Instr.index, asIntOf, Sem.run_bind, Sem.run_pure, Result.andThen_ok, run_underlying hu, Sem.run_ite, if_pos h1, h2]
          exact p1
    · cases h
  · cases h

/- interface values, functions -/
noncomputable def pIface (t : TypeId) (x : CV) (st : St) : OR := .ok (.iface t x) st
theorem pIface_sound {t : TypeId} {x : CV} {x' : Value} (h : pIface t x st = .ok v st') (hw : WR ρ st w) (hx : VR ρ x x') (hc : P.concrete t = true) : DoesV P (Instr.makeInterface t x') ρ st w v st' := by
  cases h
  exact DoesV.still hw (run_makeInterface w t x' hc) (.iface t x x' hx)
end
end Sim
