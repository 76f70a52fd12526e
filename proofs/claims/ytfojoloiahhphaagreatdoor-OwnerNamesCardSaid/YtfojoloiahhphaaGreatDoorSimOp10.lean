import Derived.Test.YtfojoloiahhphaaGreatDoorSimOp9
/- Sim, part 16: composite literals, functions as values. -/
namespace Sim
open Go

abbrev Part := Nat × Nat × CV
noncomputable def fillS (parts : List Part) : Segs CV → Option (Segs CV) :=
  List.rec (motive := fun _ => Segs CV → Option (Segs CV)) (fun s => some s)
    (fun p _ ih s => (fun x : Segs CV => bsel (Nat.beq x.size p.2.1) (Option.rec none (fun s' => ih s') (s.write p.1 x)) none) p.2.2.segs) parts
noncomputable def listS (l : List CV) : Segs CV := List.rec .nil (fun v _ r => .one v r) l
theorem row_listS (l : List CV) : row (listS l) = l := by
  induction l with
  | nil => rfl
  | cons v l ih => show v :: row (listS l) = _; rw [ih]

theorem foldl_set (off : Nat) : ∀ (l : List Value) (k : Nat) (cells : Array Value), off + k + l.length ≤ cells.size →
    ((l.zipIdx k).foldl (fun cs (p : Value × Nat) => cs.setIfInBounds (off + p.2) p.1) cells).toList = cells.toList.take (off + k) ++ l ++ cells.toList.drop (off + k + l.length) := by
  intro l
  induction l with
  | nil => intro k cells _; simp
  | cons v l ih =>
    intro k cells h
    rw [List.zipIdx_cons, List.foldl_cons, ih (k + 1) _ (by simp at h ⊢; omega)]
    have e := list_seg_step cells.toList (off + k) v l (by simp at h ⊢; omega)
    simp only [Array.toList_setIfInBounds]
    rw [← Nat.add_assoc, e]
    simp

section
variable {P : Program} {ρ : Ren} {st st' : St} {w : World} {v : CV}

/-- Parts on both sides: the clean ones know their places. -/
inductive PartsR (ρ : Ren) (place : Nat → Option (Nat × Nat)) : List Part → List (Nat × Value) → Prop where
  | nil : PartsR ρ place [] []
  | cons (i off size : Nat) (x : CV) (x' : Value) (l : List Part) (l' : List (Nat × Value)) (hp : place i = some (off, size)) (hx : VR ρ x x') (t : PartsR ρ place l l') :
      PartsR ρ place ((off, size, x) :: l) ((i, x') :: l')

theorem fill_sound {place : Nat → Option (Nat × Nat)} {parts : List Part} {parts' : List (Nat × Value)} (h : PartsR ρ place parts parts') : ∀ {s s' : Segs CV} {cells : Array Value}, fillS parts s = some s' → VRs ρ (row s) cells.toList →
    ∃ cells', Instr.fill place cells parts' = some cells' ∧ VRs ρ (row s') cells'.toList := by
  induction h with
  | nil => intro s s' cells h hv; cases h; exact ⟨cells, rfl, hv⟩
  | cons i off size x x' l l' hp hx t ih =>
    intro s s' cells h hv
    have e0 : fillS ((off, size, x) :: l) s = bsel (Nat.beq x.segs.size size) (Option.rec none (fun s' => fillS l s') (s.write off x.segs)) none := rfl
    simp only [e0, bsel_eq, Nat.beq_eq] at h
    split at h
    · rename_i hsz
      cases hw : s.write off x.segs with
      | none => rw [hw] at h; cases h
      | some s2 =>
        rw [hw] at h
        obtain ⟨w1, w2⟩ := Segs.write_some hw
        have hxs := hx.segs
        have hlen : x'.cells.size = size := by have := hxs.len; rw [row_length, hsz] at this; simpa using this.symm
        have hcs : cells.size = s.size := by have := hv.len; rw [row_length] at this; simpa using this.symm
        have hfit : off + x'.cells.size ≤ cells.size := by omega
        let cells2 := x'.cells.zipIdx.foldl (fun cs (p : Value × Nat) => cs.setIfInBounds (off + p.2) p.1) cells
        have hc2 : cells2.toList = cells.toList.take off ++ (x'.cells.toList ++ cells.toList.drop (off + x'.cells.size)) := by
          have := foldl_set off x'.cells.toList 0 cells (by simpa using hfit)
          show (Array.foldl _ cells x'.cells.zipIdx).toList = _
          rw [← Array.foldl_toList, Array.toList_zipIdx, this]
          simp
        obtain ⟨cells', f1, f2⟩ := ih (cells := cells2) h (by
          rw [show row s2 = _ from w2 byteV, hc2]
          have e1 : x.segs.size = x'.cells.size := by rw [hsz, hlen]
          rw [e1]
          exact (hv.take off).app (hxs.app (hv.drop _)))
        refine ⟨cells', ?_, f2⟩
        simp only [Instr.fill, hp]
        rw [if_neg (by simp [hlen]; omega)]
        exact f1
    · cases h

noncomputable def pBuild (z : Segs CV) (parts : List Part) (st : St) : OR := Option.rec .bad (fun s => s.force fun s => .ok (.agg s) st) (fillS parts z)
noncomputable def pBuildSlice (e len : Nat) (z : Segs CV) (parts : List Part) (st : St) : OR :=
  Option.rec .bad (fun s => s.force fun s => forceB st.next.succ fun n => .ok (.slice st.next 0 len len 0) ⟨st.mem.put st.next (some (.cells s e false)), n⟩) (fillS parts z)

theorem run_mapM_list {β γ : Type} (l : List β) (f : β → Sem γ) (g : β → γ) (h : ∀ x ∈ l, (f x).run P w = .ok (g x) w) : (l.mapM f).run P w = .ok (l.map g) w := by
  induction l with
  | nil => simp
  | cons a l ih => simp [List.mapM_cons, h a (by simp), ih (fun x hx => h x (by simp [hx]))]

theorem run_mapM_array {β γ : Type} (l : Array β) (f : β → Sem γ) (g : β → γ) (h : ∀ x ∈ l.toList, (f x).run P w = .ok (g x) w) : (l.mapM f).run P w = .ok (l.map g) w := by
  rw [Array.mapM_eq_mapM_toList, Sem.run_map, run_mapM_list l.toList f g h]
  simp only [Result.andThen_ok]
  congr 1
  apply Array.ext'
  simp

/-- Where the fields of a struct lie. -/
def placeF (P : Program) (fs : Array Field) (i : Nat) : Option (Nat × Nat) := (fs[i]?).map fun f => (f.offset, P.cellsOf f.type)
def placeA (size : Nat) (i : Nat) : Option (Nat × Nat) := some (i * size, size)

theorem pBuild_struct {t : TypeId} {fs : Array Field} {i : TypeInfo} {z : Segs CV} {z' : Value} {parts : List Part} {parts' : Array (Nat × Value)} (h : pBuild z parts st = .ok v st') (hw : WR ρ st w) (hu : P.underlying t = some (.struct fs)) (hi : P.info? t = some i)
    (hz : i.zero = some z') (hzz : ∀ ρ, VRs ρ (row z) z'.cells.toList) (hp : PartsR ρ (placeF P fs) parts parts'.toList) (hinfo : ∀ f ∈ fs.toList, ∃ j, P.info? f.type = some j) : DoesV P (Instr.build t parts') ρ st w v st' := by
  unfold pBuild at h
  cases hf : fillS parts z with
  | none => rw [hf] at h; cases h
  | some s =>
    rw [hf] at h
    dsimp only at h
    rw [Segs.force_eq] at h; cases h
    obtain ⟨cells', f1, f2⟩ := fill_sound hp hf (hzz ρ)
    refine DoesV.still hw (v' := .agg cells') ?_ (by have := VR.agg' f2; simpa using this)
    have hm := run_mapM_array (P := P) (w := w) fs (fun f => do pure (f.offset, ← Go.sizeOf f.type)) (fun f => (f.offset, P.cellsOf f.type)) (fun f hf => by
      obtain ⟨j, hj⟩ := hinfo f hf
      simp [Go.sizeOf, typeInfo, hj, Program.cellsOf])
    have hpl : (fun i => (fs.map fun f => (f.offset, P.cellsOf f.type))[i]?) = placeF P fs := by
      funext i; simp [placeF]
    simp only [Instr.build, zeroValue, typeInfo, Sem.run_bind, run_program, Result.andThen_ok, hi, hz, Sem.run_pure, run_underlying hu]
    rw [hm]
    simp only [Result.andThen_ok]
    rw [hpl, f1]
    rfl

theorem pBuild_array {t e : TypeId} {n : Nat} {i j : TypeInfo} {z : Segs CV} {z' : Value} {parts : List Part} {parts' : Array (Nat × Value)} (h : pBuild z parts st = .ok v st') (hw : WR ρ st w) (hu : P.underlying t = some (.array n e)) (hi : P.info? t = some i)
    (hz : i.zero = some z') (hzz : ∀ ρ, VRs ρ (row z) z'.cells.toList) (hj : P.info? e = some j) (hp : PartsR ρ (placeA j.size) parts parts'.toList) : DoesV P (Instr.build t parts') ρ st w v st' := by
  unfold pBuild at h
  cases hf : fillS parts z with
  | none => rw [hf] at h; cases h
  | some s =>
    rw [hf] at h
    dsimp only at h
    rw [Segs.force_eq] at h; cases h
    obtain ⟨cells', f1, f2⟩ := fill_sound hp hf (hzz ρ)
    refine DoesV.still hw (v' := .agg cells') ?_ (by have := VR.agg' f2; simpa using this)
    have hpl : (fun i => some (i * j.size, j.size)) = placeA j.size := rfl
    simp only [Instr.build, zeroValue, Go.sizeOf, typeInfo, Sem.run_bind, run_program, Result.andThen_ok, hi, hj, hz, Sem.run_pure, run_underlying hu]
    rw [hpl, f1]
    rfl

theorem pBuildSlice_sound {t e : TypeId} {len : Nat} {i : TypeInfo} {z : Segs CV} {z' : Value} {parts : List Part} {parts' : Array (Nat × Value)} (h : pBuildSlice e len (repS len z) parts st = .ok v st') (hw : WR ρ st w) (hu : P.underlying t = some (.slice e)) (hi : P.info? e = some i)
    (hz : i.zero = some z') (hsz : z'.cells.size = i.size) (hzz : ∀ ρ, VRs ρ (row z) z'.cells.toList) (hp : PartsR ρ (placeA i.size) parts parts'.toList) (hlen : len * i.size ≤ 16777216) : DoesV P (Instr.buildSlice t len parts') ρ st w v st' := by
  unfold pBuildSlice at h
  cases hf : fillS parts (repS len z) with
  | none => rw [hf] at h; cases h
  | some s =>
    rw [hf] at h
    dsimp only at h
    rw [Segs.force_eq, forceB_eq] at h; cases h
    have hrow : (List.replicate len z'.cells.toList).flatten = ((Array.range (len * i.size)).map (z'.cells[· % z'.cells.size]!)).toList := by
      rw [← hsz, Array.toList_map, Array.toList_range]; exact (range_mod z'.cells len).symm
    have hvz : VRs ρ (row (repS len z)) ((Array.range (len * i.size)).map (z'.cells[· % z'.cells.size]!)).toList := by
      rw [row_repS, ← hrow]; exact (hzz ρ).flatten len
    obtain ⟨cells', f1, f2⟩ := fill_sound hp hf hvz
    obtain ⟨ρ', h1, h2, h3⟩ := After.newRow (P := P) (t := e) (s := s) (l := cells'.toList) hw (fun ρ' hle => f2.mono hle) false
    rw [Array.toArray_toList] at h1 h3
    refine ⟨.slice (some ⟨w.heap.size, 0, none⟩) len len, _, ρ', ?_, .slice _ _ _ _ _ _ h2, h3⟩
    have hpl : (fun k => some (k * i.size, i.size)) = placeA i.size := rfl
    have hn : ¬ (len * i.size > 2 ^ 24) := by show ¬ (len * i.size > 16777216); omega
    simp only [Instr.buildSlice, Sem.run_bind, run_underlying hu, Result.andThen_ok, Go.sizeOf, typeInfo, run_program, hi, Sem.run_pure, if_neg hn]
    by_cases h0 : len * i.size = 0
    · have hz0 : ((Array.range (len * i.size)).map (z'.cells[· % z'.cells.size]!)) = ((Array.range (len * i.size)).map ((#[] : Array Value)[· % (#[] : Array Value).size]!)) := by
        rw [h0, Array.range_zero']; simp
      rw [hz0] at f1
      rw [if_pos h0]
      show Sem.run P (do
        let some cells := Instr.fill (placeA i.size) ((Array.range (len * i.size)).map ((#[] : Array Value)[· % (#[] : Array Value).size]!)) parts'.toList | stuck "buildSlice: a part of the wrong size"
        pure (Value.slice (some (← newRow e cells)) len len)) w = _
      rw [f1]
      simp only [Sem.run_bind, h1, Result.andThen_ok, Sem.run_pure]
    · rw [if_neg h0]
      simp only [zeroValue, typeInfo, Sem.run_bind, run_program, Result.andThen_ok, hi, hz, Sem.run_pure]
      rw [hpl, f1]
      simp only [Sem.run_bind, h1, Result.andThen_ok, Sem.run_pure]

noncomputable def pFunc (fn : Fn) (f c : List CV) (st : St) : OR := (listS f).force fun f => (listS c).force fun c => .ok (.func fn f c) st
theorem pFunc_sound {fn : Fn} {f c : List CV} {f' c' : Array Value} (h : pFunc fn f c st = .ok v st') (hw : WR ρ st w) (hf : VRs ρ f f'.toList) (hc : VRs ρ c c'.toList) : DoesV P (Instr.makeFunc fn f' c') ρ st w v st' := by
  unfold pFunc at h
  rw [Segs.force_eq, Segs.force_eq] at h; cases h
  refine DoesV.still hw rfl ?_
  have := VR.func (ρ := ρ) fn (listS f) (listS c) f'.toList c'.toList (by rw [row_listS]; exact hf.len) (by rw [row_listS]; exact hc.len) (by rw [row_listS]; exact hf.at') (by rw [row_listS]; exact hc.at')
  simpa using this
end
end Sim
