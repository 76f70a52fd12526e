import Derived.Test.YtfojoloiahhphaaGreatDoorSimOp4
/- Sim, part 11: len, make, append, copy, clear, min, max. -/
namespace Sim
open Go

noncomputable def repS (c : Nat) (z : Segs CV) : Segs CV :=
  match z with
  | .bytes m v .nil => bsel (Nat.beq v 0) (bsel (Nat.beq c 0) .nil (.bytes (Nat.mul m c) 0 .nil)) (Nat.rec .nil (fun _ r => (Segs.bytes m v .nil).app r) c)
  | z => Nat.rec .nil (fun _ r => z.app r) c
theorem row_rep (z : Segs CV) (c : Nat) : row (Nat.rec (motive := fun _ => Segs CV) .nil (fun _ r => z.app r) c) = (List.replicate c (row z)).flatten := by
  induction c with
  | zero => rfl
  | succ c ih =>
    show row (z.app _) = _
    rw [row, Segs.cells_app, List.replicate_succ, List.flatten_cons]
    rw [row] at ih; rw [ih]
theorem flatten_zero (m : Nat) : ∀ c, (ub (m * c) 0).map byteV = (List.replicate c ((ub m 0).map byteV)).flatten := by
  intro c
  induction c with
  | zero => rfl
  | succ c ih =>
    rw [List.replicate_succ, List.flatten_cons, ← ih, ← List.map_append, ub_zero, ub_zero, ub_zero, List.replicate_append_replicate]
    congr 2
    rw [Nat.mul_succ, Nat.add_comm]
theorem row_repS (c : Nat) (z : Segs CV) : row (repS c z) = (List.replicate c (row z)).flatten := by
  unfold repS
  split
  · rename_i m v
    simp only [bsel_eq, Nat.beq_eq]
    split
    · rename_i hv; subst hv
      split
      · rename_i hc; subst hc; rfl
      · show (ub (m * c) 0).map byteV ++ [] = (List.replicate c ((ub m 0).map byteV ++ [])).flatten
        rw [List.append_nil, List.append_nil, flatten_zero]
    · exact row_rep _ c
  · exact row_rep _ c

theorem range_mod (z : Array Value) : ∀ c, ((List.range (c * z.size)).map fun i => z[i % z.size]!) = (List.replicate c z.toList).flatten := by
  intro c
  induction c with
  | zero => simp
  | succ c ih =>
    rw [List.replicate_succ, List.flatten_cons, ← ih, Nat.succ_mul, Nat.add_comm, List.range_add, List.map_append, List.map_map]
    congr 1
    · apply List.ext_getElem
      · simp
      · intro i h1 h2
        simp only [List.length_map, List.length_range] at h1
        simp [Nat.mod_eq_of_lt h1, h1]
    · apply List.map_congr_left
      intro i _
      simp

section
variable {P : Program} {ρ : Ren} {st st' : St} {w : World} {v : CV}

theorem VRs.flatten {l : List CV} {l' : List Value} (h : VRs ρ l l') (c : Nat) : VRs ρ (List.replicate c l).flatten (List.replicate c l').flatten := by
  induction c with
  | zero => exact VRs.nil ρ
  | succ c ih => rw [List.replicate_succ, List.replicate_succ, List.flatten_cons, List.flatten_cons]; exact h.app ih

/- len, cap -/
inductive LenK where
  | str | slice | map | cap
  | const (n : Nat)
noncomputable def pLen (k : LenK) (x : CV) (st : St) : OR :=
  match k, x with
  | .const n, _ => okN .i64 st n
  | .str, .str n _ => okN .i64 st n
  | .slice, .nilslice => okN .i64 st 0
  | .slice, .slice _ _ len _ _ => okN .i64 st len
  | .map, .nilmap => okN .i64 st 0
  | .map, .map b => (match st.mem.get b with | some (.map es _) => forceN es.length (okN .i64 st) | some (.lmap es) => forceN es.length (okN .i64 st) | _ => .bad)
  | .cap, .nilslice => okN .i64 st 0
  | .cap, .slice _ _ _ cap grow => bsel (Nat.beq grow 0) (okN .i64 st cap) (.ok (.atleast cap) st)
  | _, _ => .bad
def lenFits (P : Program) (k : LenK) (t : TypeId) : Prop :=
  match k with
  | .str => P.underlying t = some .string
  | .slice => ∃ e, P.underlying t = some (.slice e)
  | .map => ∃ k e, P.underlying t = some (.map k e)
  | .cap => False
  | .const n => (∃ e, P.underlying t = some (.array n e)) ∨ ∃ a e, P.underlying t = some (.pointer a) ∧ P.underlying a = some (.array n e)
theorem WR.map {b : Bp} {es : List (CV × CV × Nat)} {clock r sz : Nat} (h : WR ρ st w) (h1 : st.mem.get b = some (.map es clock)) (h2 : ρ b = some (r, sz)) :
    ∃ es' : List MapEntry, w.heap[r]? = some (.map es'.toArray clock) ∧ es.length = es'.length ∧
      ∀ (i : Nat) (e : CV × CV × Nat) (e' : MapEntry), es[i]? = some e → es'[i]? = some e' → VR ρ e.1 e'.key ∧ VR ρ e.2.1 e'.val ∧ e.2.2 = e'.born := by
  obtain ⟨o, e2, e3⟩ := h.at' b _ r sz h1 h2
  cases e3 with
  | map _ _ es' hl h => exact ⟨es', e2, hl, h⟩
theorem WR.lmap {b : Bp} {es : List (CV × CV × Nat)} {r sz : Nat} (h : WR ρ st w) (h1 : st.mem.get b = some (.lmap es)) (h2 : ρ b = some (r, sz)) :
    ∃ (l : List (CV × CV × Nat)) (clock : Nat) (es' : List MapEntry), w.heap[r]? = some (.map es'.toArray clock) ∧ l.Perm es ∧ (∀ e ∈ es, ∃ n : Int, e.1 = .int .i64 n) ∧ (es.map (·.1)).Nodup ∧ Go.MapKept.Stamped es'.toArray clock ∧ l.length = es'.length ∧
      ∀ (i : Nat) (e : CV × CV × Nat) (e' : MapEntry), l[i]? = some e → es'[i]? = some e' → VR ρ e.1 e'.key ∧ VR ρ e.2.1 e'.val := by
  obtain ⟨o, e2, e3⟩ := h.at' b _ r sz h1 h2
  cases e3 with
  | lmap _ l clock es' hp hi hn hs hl h => exact ⟨l, clock, es', e2, hp, hi, hn, hs, hl, h⟩
theorem run_getObj_map {r clock : Nat} {es : Array MapEntry} (h : w.heap[r]? = some (.map es clock)) : (getObj r).run P w = .ok (.map es clock) w := by
  simp only [getObj, Sem.run, h]
theorem pLen_sound {k : LenK} {t ty : TypeId} {x : CV} {x' : Value} (h : pLen k x st = .ok v st') (hw : WR ρ st w) (hx : VR ρ x x') (hf : lenFits P k t) (ats : Array TypeId) (hat : ats[0]? = some t) :
    DoesV P (Builtin.len_ ats ty #[x']) ρ st w v st' := by
  unfold pLen at h
  split at h
  · cases h
    refine DoesV.still hw ?_ (.int _ _)
    rcases hf with ⟨e, hf⟩ | ⟨a, e, hf, hf2⟩
    · simp only [Builtin.len_, hat, List.getElem?_toArray, List.getElem?_cons_zero, Sem.run_bind, run_underlying hf, Result.andThen_ok]
      rfl
    · simp only [Builtin.len_, hat, List.getElem?_toArray, List.getElem?_cons_zero, Sem.run_bind, run_underlying hf, run_underlying hf2, Result.andThen_ok]
      rfl
  · cases h; cases hx
    refine DoesV.still hw ?_ (.int _ _)
    have hf' : P.underlying t = some .string := hf
    simp [Builtin.len_, hat, run_underlying hf', goInt]
  · cases h; cases hx; obtain ⟨e, hf⟩ := hf
    refine DoesV.still hw ?_ (.int _ _)
    simp [Builtin.len_, hat, run_underlying hf, goInt]
  · cases h; obtain ⟨e, hf⟩ := hf
    obtain ⟨r, sz, off', cap', rfl, _⟩ := hx.slice_inv
    refine DoesV.still hw ?_ (.int _ _)
    simp [Builtin.len_, hat, run_underlying hf, goInt]
  · cases h; cases hx; obtain ⟨e, e2, hf⟩ := hf
    refine DoesV.still hw ?_ (.int _ _)
    simp [Builtin.len_, hat, run_underlying hf, goInt]
  · rename_i b
    obtain ⟨e, e2, hf⟩ := hf
    split at h
    · rename_i es clock hm
      rw [forceN_eq] at h; cases h
      cases hx with
      | map _ r sz hr =>
        obtain ⟨es', h1, h2, h3⟩ := hw.map hm hr
        refine DoesV.still hw ?_ (.int _ _)
        simp [Builtin.len_, hat, run_underlying hf, goInt, run_getObj_map h1, h2]
    · rename_i es hm
      rw [forceN_eq] at h; cases h
      cases hx with
      | map _ r sz hr =>
        obtain ⟨l, clock, es', h1, h2, _, _, _, h3, _⟩ := hw.lmap hm hr
        refine DoesV.still hw ?_ (.int _ _)
        simp [Builtin.len_, hat, run_underlying hf, goInt, run_getObj_map h1, ← h3, h2.length_eq]
    · cases h
  · exact hf.elim
  · exact hf.elim
  · cases h
theorem pCap_sound {t ty : TypeId} {x : CV} {x' : Value} (h : pLen .cap x st = .ok v st') (hw : WR ρ st w) (hx : VR ρ x x') {e : TypeId} (hf : P.underlying t = some (.slice e)) (ats : Array TypeId) (hat : ats[0]? = some t) :
    DoesV P (Builtin.cap_ ats ty #[x']) ρ st w v st' := by
  have e : pLen .cap x st = (match (generalizing := false) x with | .nilslice => okN .i64 st 0 | .slice _ _ _ cap grow => bsel (Nat.beq grow 0) (okN .i64 st cap) (.ok (.atleast cap) st) | _ => .bad) := by cases x <;> rfl
  rw [e] at h
  split at h
  · cases h; cases hx
    refine DoesV.still hw ?_ (.int _ _)
    simp [Builtin.cap_, hat, run_underlying hf, goInt]
  · rename_i b off len cap grow
    obtain ⟨r, sz, off', cap', rfl, hr, c1, c2, c3, c4⟩ := hx.slice_inv
    simp only [bsel_eq, Nat.beq_eq] at h
    split at h
    · rename_i hg
      cases h
      obtain ⟨g1, _⟩ := c3 hg
      subst g1
      refine DoesV.still hw ?_ (.int _ _)
      simp [Builtin.cap_, hat, run_underlying hf, goInt]
    · cases h
      refine DoesV.still hw (v' := .int .i64 (cap' : Int)) ?_ (.atleast _ _ (by exact_mod_cast c2))
      simp [Builtin.cap_, hat, run_underlying hf, goInt]
  · cases h

/- make -/
noncomputable def pMake (e bytes : Nat) (z : Segs CV) (l c : CV) (st : St) : OR :=
  match l, c with
  | .int _ (.ofNat l), .int _ (.ofNat c) =>
    bsel (Bool.and (Nat.ble l c) (Bool.and (Nat.ble (Nat.mul bytes c) 281474976710656) (Nat.ble c 9223372036854775807)))
      (forceB st.next.succ fun n => (repS c z).force fun s => .ok (.slice st.next 0 l c 0) ⟨st.mem.put st.next (some (.cells s e false)), n⟩) .bad
  | _, _ => .bad
theorem pMake_sound {t e bytes : TypeId} {i : TypeInfo} {z : Segs CV} {z' : Value} {l c : CV} {l' c' : Value} (h : pMake e bytes z l c st = .ok v st') (hw : WR ρ st w) (hl : VR ρ l l') (hc : VR ρ c c')
    (hu : P.underlying t = some (.slice e)) (hi : P.info? e = some i) (hz : i.zero = some z') (hb : i.bytes = bytes) (hsz : z'.cells.size = i.size) (hzz : ∀ ρ, VRs ρ (row z) z'.cells.toList) :
    DoesV P (Instr.makeSlice t l' c') ρ st w v st' := by
  unfold pMake at h
  split at h
  · rename_i k1 l k2 c
    simp only [bsel_eq, Bool.and_eq_true, Nat.ble_eq, forceB_eq, Segs.force_eq] at h
    split at h
    · rename_i hg
      cases h; cases hl; cases hc
      obtain ⟨g1, g2, g3⟩ := hg
      have hrun := run_make w t e i z' hu hi hz k1 k2 (l : Int) (c : Int) (Int.natCast_nonneg _) (Int.ofNat_le.2 g1) (by
        rw [hb]
        have : bytes * c ≤ 281474976710656 := g2
        have h4 : ((bytes * c : Nat) : Int) ≤ 281474976710656 := Int.ofNat_le.2 this
        rwa [Int.natCast_mul] at h4) (Int.ofNat_le.2 g3)
      have hcells : (madeCells z'.cells (c * i.size)).toList = (List.replicate c z'.cells.toList).flatten := by
        rw [← hsz, madeCells, Array.toList_map, Array.toList_range]
        exact range_mod z'.cells c
      obtain ⟨ρ', h1, h2, h3⟩ := After.newRow (P := P) (t := e) (s := repS c z) (l := (madeCells z'.cells (c * i.size)).toList) hw (fun ρ' _ => by
        rw [row_repS, hcells]; exact (hzz ρ').flatten c) false
      refine ⟨_, _, ρ', hrun, ?_, ?_⟩
      · have := VR.slice (ρ := ρ') st.next 0 l c w.heap.size _ h2
        simpa using this
      · rw [Array.toArray_toList] at h3; exact h3
    · cases h
  · cases h

/- append: what is appended -/
inductive SrcK where
  | slice | str | zeros
noncomputable def srcOf (k : SrcK) (size : Nat) (z : Segs CV) (x : CV) (st : St) : Option (Nat × Segs CV) :=
  match k, x with
  | .slice, .nilslice => some (0, .nil)
  | .slice, .slice b off len cap grow => (match sliceCells size len (.slice b off len cap grow) st with | some s => some (len, s) | none => none)
  | .str, .str n a => some (n, bsel (Nat.beq n 0) .nil (.bytes n a .nil))
  | .zeros, .int _ (.ofNat n) => bsel (Nat.ble n 1099511627776) (some (n, repS n z)) none
  | _, _ => none
def srcFits (P : Program) (k : SrcK) (u : TypeId) (size : Nat) : Prop :=
  match k with
  | .slice => ∃ e, P.underlying u = some (.slice e)
  | .str => P.underlying u = some .string ∧ size = 1
  | .zeros => ∃ j, P.underlying u = some (.int j)

/-- The rest of 'append', once it is known how many there are and what they are. -/
def appCore (elem : TypeId) (size : Nat) (zeros : Bool) (n : Nat) (appended : Sem (Array Value)) (base : Option Addr) (sLen sCap : Nat) (s x : Value) : Sem Value := do
  let need := sLen + n
  if need ≤ sCap then
    let new ← appended
    if let some a := base then storeCells (a.add (sLen * size)) new.toList
    pure (.slice base need sCap)
  else
    if (need : Int) > IntKind.i64.max ∧ (zeros ∨ (← typeInfo elem).bytes = 0) then runtimePanic (.error "growslice: len out of range")
    if Builtin.nextslicecap need sCap * (← typeInfo elem).bytes > 2 ^ 48 then (if zeros then runtimePanic (.error "growslice: len out of range") else do
      if !(← Builtin.mayShare size sLen n base x) then mark .noRoom
      unsupported (.resourceLimit "append: a slice or a string whose bytes no memory bears"))
    let newCap ← choose (.appendCap need sCap elem)
    askRoom (newCap * (← typeInfo elem).bytes)
    let old ← Builtin.firstCells size sLen s
    let new ← appended
    let rest := Builtin.zeroCells (← zeroValue elem).cells (newCap - need)
    pure (.slice (some (← newRow elem (old ++ new ++ rest))) need newCap)

/-- The source of an append, on both sides: 'append' is its core. -/
theorem src_sound {k : SrcK} {t u ty e size : TypeId} {i : TypeInfo} {z : Segs CV} {z' : Value} {x : CV} {x' : Value} {n : Nat} {s : Segs CV} (h : srcOf k size z x st = some (n, s)) (hw : WR ρ st w) (hx : VR ρ x x')
    (hf : srcFits P k u size) (hu : P.underlying t = some (.slice e)) (hi : P.info? e = some i) (hz : i.zero = some z') (hs : i.size = size) (hsz : z'.cells.size = size) (hzz : ∀ ρ, VRs ρ (row z) z'.cells.toList) (hb : k = .zeros → i.bytes ≤ 256) :
    ∃ vs zeros appended, VRs ρ (row s) vs ∧ vs.length = n * size ∧ (∀ w1 : World, w1.heap = w.heap → appended.run P w1 = .ok vs.toArray w1) ∧
      ∀ base sLen sCap, (Builtin.append_ #[t, u] ty #[.slice base sLen sCap, x']).run P w = (appCore e size zeros n appended base sLen sCap (.slice base sLen sCap) x').run P w := by
  have hsize : (Go.sizeOf e).run P w = .ok size w := by simp [Go.sizeOf, typeInfo, hi, hs]
  unfold srcOf at h
  split at h
  · cases h; cases hx; obtain ⟨e2, hf⟩ := hf
    refine ⟨[], false, Builtin.firstCells size 0 (.slice none 0 0), VRs.nil ρ, by simp, fun w1 _ => by simp [Builtin.firstCells], fun base sLen sCap => ?_⟩
    simp only [Builtin.append_, List.getElem?_toArray, List.getElem?_cons_zero, List.getElem?_cons_succ, Sem.run_bind, run_underlying hu, run_underlying hf, Result.andThen_ok, hsize, Sem.run_pure, Builtin.lenOf, appCore, Bool.not_false, if_true, Bool.false_eq_true, if_false]
    rfl
  · rename_i b off len cap grow
    split at h
    · rename_i s' hs'
      cases h; obtain ⟨e2, hf⟩ := hf
      obtain ⟨vs, g1, g2, g3⟩ := sliceCells_sound (P := P) hs' (fun _ h _ => by cases h) hw hx
      obtain ⟨r, sz, off', cap', rfl, _⟩ := hx.slice_inv
      refine ⟨vs, false, _, g1, g2, g3, fun base sLen sCap => ?_⟩
      simp only [Builtin.append_, List.getElem?_toArray, List.getElem?_cons_zero, List.getElem?_cons_succ, Sem.run_bind, run_underlying hu, run_underlying hf, Result.andThen_ok, hsize, Sem.run_pure, Builtin.lenOf, appCore, Bool.not_false, if_true, Bool.false_eq_true, if_false]
      rfl
    · cases h
  · rename_i m a
    cases h; cases hx; obtain ⟨hf, rfl⟩ := hf
    refine ⟨((ub n a).map fun y : Nat => Value.int .u8 (y : Int)), false, Builtin.firstCells 1 n (.string (strB n a)), ?_, by simp, fun w1 _ => ?_, fun base sLen sCap => ?_⟩
    · rw [bsel_eq]
      split
      · rename_i h0
        rw [Nat.beq_eq] at h0; subst h0; exact VRs.nil ρ
      · simpa [row, Segs.cells] using VRs.bytes ρ (ub n a)
    · simp only [Builtin.firstCells, Sem.run_pure]
      congr 1
      apply Array.ext'
      have hlen : (strB n a).extract 0 n = strB n a := by
        have h : (strB n a).extract 0 (strB n a).size = strB n a := ByteArray.extract_zero_size
        rwa [strB_size] at h
      rw [hlen, cell_u8, Array.toList_map, strB_toList, List.map_map, List.map_map]; rfl
    · simp only [Builtin.append_, List.getElem?_toArray, List.getElem?_cons_zero, List.getElem?_cons_succ, Sem.run_bind, run_underlying hu, run_underlying hf, Result.andThen_ok, hsize, Sem.run_pure, Builtin.lenOf, appCore, Bool.not_false, if_true, Bool.false_eq_true, if_false, strB_size]
      rfl
  · rename_i j m
    simp only [bsel_eq, Nat.ble_eq] at h
    split at h
    · rename_i hm
      cases h; cases hx; obtain ⟨j2, hf⟩ := hf
      have hn : IntKind.i64.wrap (Int.ofNat n) = n := by
        have := wrap_nat .i64 n (by simp [ktop]; omega)
        exact this
      have hzv : ∀ w1 : World, (zeroValue e).run P w1 = .ok z' w1 := fun w1 => by simp [zeroValue, typeInfo, hi, hz]
      refine ⟨(List.replicate n z'.cells.toList).flatten, true, (if n * size = 0 then pure #[] else do pure (Builtin.zeroCells (← zeroValue e).cells n)), ?_, ?_, fun w1 _ => ?_, fun base sLen sCap => ?_⟩
      · rw [row_repS]; exact (hzz ρ).flatten n
      · simp [hsz]
      · split
        · rename_i h0
          have : (List.replicate n z'.cells.toList).flatten = [] := by
            apply List.length_eq_zero_iff.1; simp [hsz, h0]
          rw [this]; rfl
        · simp only [Sem.run_bind, hzv, Result.andThen_ok, Sem.run_pure]
          congr 1
          apply Array.ext'
          rw [Builtin.zeroCells, Array.toList_map, Array.toList_range]
          exact range_mod z'.cells n
      · have h1 : ¬ ((n : Int) < 0) := by omega
        have h2 : ¬ ((n : Int) * i.bytes > 2 ^ 48) := by
          have h3 : n * i.bytes ≤ 1099511627776 * 256 := Nat.mul_le_mul hm (hb rfl)
          have h4 : ((n * i.bytes : Nat) : Int) ≤ ((1099511627776 * 256 : Nat) : Int) := Int.ofNat_le.2 h3
          rw [Int.natCast_mul] at h4
          exact fun h5 => absurd (Int.lt_of_lt_of_le h5 h4) (by decide)
        simp only [Builtin.append_, List.getElem?_toArray, List.getElem?_cons_zero, List.getElem?_cons_succ, Sem.run_bind, run_underlying hu, run_underlying hf, Result.andThen_ok, hsize, Sem.run_pure, asInt, asIntOf, hn, Sem.run_ite, typeInfo, run_program, hi,
          if_neg h1, if_neg h2, Int.toNat_natCast, appCore, if_true, Bool.not_true, Bool.false_eq_true, if_false]
        rfl
    · cases h
  · cases h
end
end Sim
