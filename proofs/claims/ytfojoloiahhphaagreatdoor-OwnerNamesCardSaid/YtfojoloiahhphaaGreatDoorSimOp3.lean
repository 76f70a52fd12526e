import Derived.Test.YtfojoloiahhphaaGreatDoorSimOp2
import Derived.Laws.BytesString
/- Sim, part 9: conversions, slices, indexing, make, append, copy. -/
namespace Sim
open Go

section
variable {P : Program} {ρ : Ren} {st st' : St} {w : World} {v : CV}

/-- What a clean slice stands for. -/
theorem VR.slice_inv {b : Bp} {off len cap grow : Nat} {x' : Value} (h : VR ρ (.slice b off len cap grow) x') :
    ∃ r sz off' cap', x' = .slice (some ⟨r, off', none⟩) len cap' ∧ ρ b = some (r, sz) ∧ (0 < cap → off' = off) ∧ cap ≤ cap' ∧ (grow = 0 → cap' = cap ∧ off' = off) ∧
      (0 < grow → off' + cap' * grow ≤ sz ∧ len ≤ cap) := by
  cases h with
  | slice _ _ _ _ r sz h => exact ⟨r, sz, off, cap, rfl, h, fun _ => rfl, Nat.le_refl _, fun _ => ⟨rfl, rfl⟩, fun h => absurd h (by omega)⟩
  | sliceG _ _ off' _ _ cap' _ r sz h hg hl hc ho hs => exact ⟨r, sz, off', cap', rfl, h, ho, hc, fun e => by omega, fun _ => ⟨hs, hl⟩⟩

/-- The cells of a slice: how many elements, of how many cells. -/
noncomputable def sliceCells (size : Nat) (n : Nat) (x : CV) (st : St) : Option (Segs CV) :=
  match x with
  | .nilslice => some .nil
  | .slice b off len _ grow => bsel (Nat.beq n 0) (some .nil) (bsel (Bool.or (Nat.beq grow 0) (Nat.ble n len)) (match st.mem.get b with | some (.cells s _ _) => s.extract off (Nat.mul n size) | _ => none) none)
  | _ => none

theorem sliceCells_sound {size n : Nat} {x : CV} {x' : Value} {t : Segs CV} (h : sliceCells size n x st = some t) (hn : ∀ e, x = .nilslice → e = n → e = 0) (hw : WR ρ st w) (hx : VR ρ x x') :
    ∃ vs, VRs ρ (row t) vs ∧ vs.length = n * size ∧ ∀ w1 : World, w1.heap = w.heap → (Builtin.firstCells size n x').run P w1 = .ok vs.toArray w1 := by
  unfold sliceCells at h
  split at h
  · cases h; cases hx
    have : n = 0 := hn n rfl rfl
    subst this
    exact ⟨[], VRs.nil ρ, by simp, fun w1 _ => by simp [Builtin.firstCells]⟩
  · rename_i b off len cap grow
    obtain ⟨r, sz, off', cap', rfl, hr, h1, h2, h3, h4⟩ := hx.slice_inv
    rw [bsel_eq] at h
    split at h
    · rename_i h0
      simp only [Nat.beq_eq] at h0; subst h0
      cases h
      exact ⟨[], VRs.nil ρ, by simp, fun w1 _ => by simp [Builtin.firstCells, loadCells, loadCellsFrom]⟩
    · rename_i h0
      simp only [Nat.beq_eq] at h0
      rw [bsel_eq] at h
      split at h
      · rename_i hg
        simp only [Bool.or_eq_true, Nat.beq_eq, Nat.ble_eq] at hg
        split at h
        · rename_i s ty g hm
          obtain ⟨c, lo, hi, e1, e2, e3, e4, e5⟩ := hw.row hm hr
          obtain ⟨g1, g2⟩ := Segs.extract_some h
          have ho : off' = off := by
            rcases hg with hg | hg
            · exact (h3 hg).2
            · by_cases hz : grow = 0
              · exact (h3 hz).2
              · have := (h4 (by omega)).2; exact h1 (by omega)
          subst ho
          have g1' : off' + n * size ≤ s.size := g1
          refine ⟨(c.toList.drop off').take (n * size), ?_, by simp; omega, fun w1 hw1 => ?_⟩
          · rw [show row t = ((row s).drop off').take (n * size) from g2 byteV]
            have e : (c.toList.drop off').take (n * size) = ((c.toList.take s.size).drop off').take (n * size) := by
              rw [List.drop_take, List.take_take, Nat.min_eq_left (by omega)]
            rw [e]; exact (e4.drop off').take _
          · exact run_loadCells_row P w1 r off' (n * size) c ty (lo, hi) (by rw [hw1]; exact e1) (by omega)
        · cases h
      · cases h
  · cases h

/- conversions -/
inductive ConvK where
  | toInt (k : IntKind)
  | same
  | bytesOf (e : TypeId)
  | strOf
noncomputable def pConv (c : ConvK) (x : CV) (st : St) : OR :=
  match c, x with
  | .toInt k, .int _ n => forceZ (fwrap k n) (okZ k st)
  | .same, .str n a => .ok (.str n a) st
  | .bytesOf e, .str n a => forceB st.next.succ fun nx => .ok (.slice st.next 0 n n 1) ⟨st.mem.put st.next (some (.cells (Segs.consB n a .nil) e true)), nx⟩
  | .strOf, .nilslice => .ok (.str 0 0) st
  | .strOf, .slice b off len cap grow => (match sliceCells 1 len (.slice b off len cap grow) st with
    | some .nil => bsel (Nat.beq len 0) (.ok (.str 0 0) st) .bad
    | some (.bytes n a .nil) => bsel (Nat.beq n len) (.ok (.str n a) st) .bad
    | _ => .bad)
  | _, _ => .bad
/-- Does the kind of conversion fit the types? -/
def convFits (P : Program) (c : ConvK) (src dst : TypeId) : Prop :=
  match c with
  | .toInt k => P.underlying dst = some (.int k) ∧ ∃ d, P.underlying src = some d
  | .same => P.underlying dst = some .string ∧ P.underlying src = some .string
  | .bytesOf e => P.underlying dst = some (.slice e) ∧ P.underlying e = some (.int .u8) ∧ P.underlying src = some .string
  | .strOf => ∃ e, P.underlying src = some (.slice e) ∧ P.underlying e = some (.int .u8) ∧ P.underlying dst = some .string

theorem foldl_push (l : List Int) : ∀ s : ByteArray, l.foldl (fun r n => r.push (UInt8.ofNat n.toNat)) s = ⟨s.data ++ (l.map fun n => UInt8.ofNat n.toNat).toArray⟩ := by
  induction l with
  | nil => intro s; simp
  | cons a l ih =>
    intro s
    rw [List.foldl_cons, ih]
    congr 1
    apply Array.ext'
    simp [ByteArray.push]

theorem bytes_vals {n a : Nat} {vs : List Value} (h : VRs ρ (row (.bytes n a .nil)) vs) : vs = ((ub n a).map fun x : Nat => (x : Int)).map (Value.int .u8) := by
  have := (VR.agg' h).bytes_inv
  simp only [Value.agg.injEq] at this
  have := congrArg Array.toList this
  simp only [] at this
  rw [this, ← cell_u8, List.map_map]; rfl

theorem pConv_sound {c : ConvK} {src dst : TypeId} {x : CV} {x' : Value} (h : pConv c x st = .ok v st') (hw : WR ρ st w) (hx : VR ρ x x') (hf : convFits P c src dst) :
    DoesV P (convert src dst x') ρ st w v st' := by
  unfold pConv at h
  split at h
  · obtain ⟨h1, d, h2⟩ := hf
    rw [forceZ_eq, fwrap_eq] at h; cases h; cases hx
    refine DoesV.still hw ?_ (.int _ _)
    simp only [convert, Sem.run_bind, run_underlying h2, run_underlying h1, Result.andThen_ok]
    cases d <;> simp [Conv.intToInt]
  · obtain ⟨h1, h2⟩ := hf
    cases h; cases hx
    refine DoesV.still hw ?_ (.str _ _)
    simp [convert, run_underlying h2, run_underlying h1]
  · rename_i e n a
    obtain ⟨h1, h2, h3⟩ := hf
    rw [forceB_eq] at h; cases h; cases hx
    let cap := (Question.appendCap n 0 e).cut (w.tape w.drawn (.appendCap n 0 e))
    have hcap : n ≤ cap := by show n ≤ n + _; omega
    let o : Obj := .cells (((strB n a).data.map fun b => Value.int .u8 b.toNat) ++ Array.replicate (cap - n) (.int .u8 0)) e (cap, cap + 1)
    have hcell : ((strB n a).data.map fun b => Value.int .u8 b.toNat).toList = ((ub n a).map fun x : Nat => Value.int .u8 (x : Int)) := by
      rw [cell_u8, Array.toList_map, strB_toList, List.map_map, List.map_map]; rfl
    have hsz : (((strB n a).data.map fun b => Value.int .u8 b.toNat) ++ Array.replicate (cap - n) (Value.int .u8 0)).size = cap := by
      have : (strB n a).data.size = n := strB_size n a
      simp [this]; omega
    have hb : ∀ ρ, BR ρ (.cells (Segs.consB n a .nil) e true) o cap := fun ρ => by
      have hs : (Segs.consB n a (Segs.nil : Segs CV)).size = n := by simp [Segs.consB, Segs.size]
      have := BR.cells (ρ := ρ) (Segs.consB n a .nil) e true (((strB n a).data.map fun b => Value.int .u8 b.toNat) ++ Array.replicate (cap - n) (.int .u8 0)) cap (cap + 1) (by rw [hs, hsz]; exact hcap)
        (by
          rw [row, Segs.cells_consB]
          rw [Array.toList_append, hcell, hs]
          rw [List.take_left' (by simp)]
          simpa [Segs.cells] using VRs.bytes ρ (ub n a))
        (fun k hk => by rw [hsz] at hk; omega) (fun h => by cases h)
      rw [hsz] at this; exact this
    have ha := After.new (hw.heap_eq (w' := { w with drawn := w.drawn + 1 }) rfl) (hb (ρ.set st.next (w.heap.size, cap)))
    have hd := After.draw hw (w.drawn + 1)
    refine ⟨.slice (some ⟨w.heap.size, 0, none⟩) n cap, _, _, ?_, .sliceG _ _ 0 _ _ cap 1 _ _ ha.2 (by omega) (Nat.le_refl _) hcap (fun _ => rfl) (by omega), hd.trans ha.1⟩
    have hs : (strB n a).size = n := strB_size n a
    simp only [convert, Sem.run_bind, run_underlying h3, run_underlying h1, run_underlying h2, Result.andThen_ok, Conv.stringToBytes, run_choose, hs]
    simp only [Question.forced, Bool.false_eq_true, if_false, Result.andThen_ok, newRow, Sem.run_bind, run_newObj, Sem.run_pure]
    have hsh : ({ heap := w.heap.push (.cells (((strB n a).data.map fun b => Value.int .u8 b.toNat) ++ Array.replicate (cap - n) (.int .u8 0)) e), tape := w.tape, drawn := w.drawn + 1, os := w.os, output := w.output } : World).shape? w.heap.size = some (e, cap) := by
      simp only [World.shape?, Array.getElem?_push_size, hsz]
    simp only [markStringish, Sem.run_bind, run_shape, Result.andThen_ok]
    rw [show (Question.appendCap n 0 e).cut (w.tape w.drawn (Question.appendCap n 0 e)) = cap from rfl, hsh]
    simp only [run_freeze, Result.andThen_ok]
    congr 1
    simp only [World.freeze, Nat.succ_ne_zero, if_false, World.mk.injEq, and_true]
    apply Array.ext
    · simp
    · intro k h1 h2
      simp only [Array.getElem_modify, Array.getElem_push]
      by_cases hk : k = w.heap.size
      · subst hk; simp [o]
      · have : k < w.heap.size := by simp at h2; omega
        simp [this, Ne.symm hk]
  · obtain ⟨e, h1, h2, h3⟩ := hf
    cases h; cases hx
    refine DoesV.still hw ?_ (.str 0 0)
    rw [run_convert_bytes_string w src dst e none 0 0 h1 h2 h3]
    rfl
  · rename_i b off len cap grow
    obtain ⟨e, h1, h2, h3⟩ := hf
    cases hs : sliceCells 1 len (.slice b off len cap grow) st with
    | none => rw [hs] at h; cases h
    | some t =>
      rw [hs] at h
      obtain ⟨vs, g1, g2, g3⟩ := sliceCells_sound (P := P) hs (fun _ h _ => by cases h) hw hx
      obtain ⟨r, sz, off', cap', rfl, hr, _⟩ := hx.slice_inv
      have g3' := g3 w rfl
      simp only [Builtin.firstCells, Nat.mul_one] at g3'
      split at h
      · rename_i ht
        cases ht
        rw [bsel_eq] at h
        split at h
        · rename_i hl
          simp only [Nat.beq_eq] at hl; subst hl
          cases h
          refine DoesV.still hw ?_ (.str 0 0)
          rw [run_convert_bytes_string w src dst e _ _ _ h1 h2 h3]
          have hv : vs = [] := by have := g1.len; simpa [row, Segs.cells] using this.symm
          subst hv
          rw [run_bytesToString w _ _ _ [] (by simpa using g3')]; rfl
        · cases h
      · rename_i n a ht
        cases ht
        rw [bsel_eq] at h
        split at h
        · rename_i hl
          simp only [Nat.beq_eq] at hl; subst hl
          cases h
          have hv := bytes_vals g1
          rw [hv] at g3'
          refine DoesV.still hw ?_ (.str n a)
          rw [run_convert_bytes_string w src dst e _ _ _ h1 h2 h3, run_bytesToString w _ _ _ _ g3', foldl_push]
          congr 2
          unfold strB
          congr 1
          apply Array.ext'
          simp [List.map_map, Function.comp_def]
        · cases h
      · cases h
  · cases h
end
end Sim
