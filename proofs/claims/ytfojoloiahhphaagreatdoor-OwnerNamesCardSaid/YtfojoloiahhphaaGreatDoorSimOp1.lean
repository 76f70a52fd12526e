import Derived.Test.YtfojoloiahhphaaGreatDoorSimMem
/- Sim, part 6: operands, frames, the first operations. -/
namespace Sim
open Go

abbrev Fr := PT CV
inductive CArg where
  | tmp (p : Bp)
  | const (v : CV)
noncomputable def fget (fr : Fr) (p : Bp) : CV := Option.rec .undef (fun v => v) (fr.get p)
noncomputable def ev (fr : Fr) (x : CArg) : CV := CArg.rec (fun p => fget fr p) (fun v => v) x

/-- A frame and its temporaries. -/
def FR (ρ : Ren) (fr : Fr) (tmps : Array Value) : Prop := ∀ t, VR ρ (fget fr (Bp.enc t)) (tmps.getD t Go.undef)

theorem FR.mono {ρ ρ' : Ren} (hle : ρ.le ρ') {fr : Fr} {tmps : Array Value} (h : FR ρ fr tmps) : FR ρ' fr tmps := fun t => (h t).mono hle
theorem fget_put_same (fr : Fr) (p : Bp) (v : CV) : fget (fr.put p (some v)) p = v := by unfold fget; rw [PT.get_put_same]
theorem fget_put_ne (fr : Fr) (p q : Bp) (x : Option CV) (h : q ≠ p) : fget (fr.put p x) q = fget fr q := by unfold fget; rw [PT.get_put_ne _ _ _ _ h]
theorem FR.put {ρ : Ren} {fr : Fr} {tmps : Array Value} (h : FR ρ fr tmps) {d : Nat} (hd : d < tmps.size) {v : CV} {v' : Value} (hv : VR ρ v v') :
    FR ρ (fr.put (Bp.enc d) (some v)) (tmps.setIfInBounds d v') := by
  intro t
  by_cases e : t = d
  · subst e
    rw [fget_put_same]
    simpa [hd] using hv
  · rw [fget_put_ne _ _ _ _ (fun e' => e (Bp.enc_inj e'))]
    have : (tmps.setIfInBounds d v').getD t Go.undef = tmps.getD t Go.undef := by simp [Array.getElem?_setIfInBounds_ne (Ne.symm e)]
    rw [this]; exact h t

/-- Constants as clean values. -/
noncomputable def ofScalar (v : Value) : Option CV :=
  match v with
  | .bool b => some (.bool b)
  | .int k n => some (.int k n)
  | .string s => some (.str s.data.toList.length (packL s.data.toList))
  | .pointer none => some .nilptr
  | .slice none 0 0 => some .nilslice
  | .map none => some .nilmap
  | .func fn f c => bsel (Bool.and f.isEmpty c.isEmpty) (some (.func fn .nil .nil)) none
  | .nilFunc => some .nilfunc
  | .nilIface => some .niliface
  | .tuple c => bsel c.isEmpty (some .undef) none
  | _ => none
theorem VR.ofScalar {v : Value} {c : CV} (h : ofScalar v = some c) (ρ : Ren) : VR ρ c v := by
  unfold Sim.ofScalar at h
  split at h <;> try (cases h; done)
  · cases h; exact .bool _
  · cases h; exact .int _ _
  · cases h
    rename_i s
    have := VR.str (ρ := ρ) s.data.toList.length (packL s.data.toList)
    rw [strB_pack] at this; exact this
  · cases h; exact .nilptr
  · cases h; exact .nilslice
  · cases h; exact .nilmap
  · rename_i fn f c
    rw [bsel_eq] at h
    split at h
    · rename_i hc
      cases h
      simp only [Bool.and_eq_true, Array.isEmpty_iff] at hc
      rw [hc.1, hc.2]
      exact VR.func fn .nil .nil [] [] rfl rfl (fun i v v' h => by simp [row, Segs.cells] at h) (fun i v v' h => by simp [row, Segs.cells] at h)
    · cases h
  · cases h; exact .nilfunc
  · cases h; exact .niliface
  · rename_i c
    rw [bsel_eq] at h
    split at h
    · rename_i hc
      cases h
      simp only [Array.isEmpty_iff] at hc
      rw [hc]; exact .undef
    · cases h
noncomputable def ofCells (l : List Value) : Option (Segs CV) :=
  List.rec (some .nil) (fun v _ r => Option.rec none (fun r => Option.rec none (fun c => some (c.segs.app r)) (ofScalar v)) r) l
noncomputable def ofValue (v : Value) : Option CV :=
  match v with
  | .agg cs => Option.rec none (fun s => some (.agg (s.force fun s => s))) (ofCells cs.toList)
  | v => ofScalar v
theorem ofScalar_agg {v : Value} {c : CV} (h : ofScalar v = some c) : ∀ s, c ≠ .agg s := by
  intro s e
  subst e
  unfold ofScalar at h
  split at h <;> first | (cases h; done) | (rw [bsel_eq] at h; split at h <;> cases h)
theorem ofCells_some : ∀ (l : List Value) (s : Segs CV), ofCells l = some s → ∀ ρ, VRs ρ (row s) l := by
  intro l
  induction l with
  | nil => intro s h ρ; cases h; exact VRs.nil ρ
  | cons v l ih =>
    intro s h ρ
    have e : ofCells (v :: l) = Option.rec none (fun r => Option.rec none (fun c => some (c.segs.app r)) (ofScalar v)) (ofCells l) := rfl
    rw [e] at h
    cases hl : ofCells l with
    | none => rw [hl] at h; cases h
    | some r =>
      rw [hl] at h
      cases hv : ofScalar v with
      | none => rw [hv] at h; cases h
      | some c =>
        rw [hv] at h
        cases h
        rw [row, Segs.cells_app]
        have := row_segs (ofScalar_agg hv)
        rw [row] at this
        rw [this]
        exact VRs.cons (VR.ofScalar hv ρ) (ih r hl ρ)
theorem VR.ofValue {v : Value} {c : CV} (h : ofValue v = some c) (ρ : Ren) : VR ρ c v := by
  unfold Sim.ofValue at h
  split at h
  · rename_i cs
    cases hc : ofCells cs.toList with
    | none => rw [hc] at h; cases h
    | some s =>
      rw [hc] at h
      cases h
      rw [Segs.force_eq]
      exact VR.agg' (ofCells_some _ s hc ρ)
  · exact VR.ofScalar h ρ

noncomputable def cArg (x : Operand) : Option CArg :=
  match x with
  | .tmp t => some (.tmp (Bp.enc t))
  | .const v => Option.rec none (fun c => some (.const c)) (ofValue v)
  | .func f => some (.const (.func (.func f) .nil .nil))
  | .global _ => none
theorem ev_sound {x : Operand} {c : CArg} (h : cArg x = some c) {ρ : Ren} {fr : Fr} {a : Act} (hf : FR ρ fr a.tmps) : VR ρ (ev fr c) (a.eval x) := by
  cases x with
  | tmp t => cases h; exact hf t
  | const v =>
    have e : cArg (.const v) = Option.rec none (fun c => some (.const c)) (ofValue v) := rfl
    rw [e] at h
    cases hv : ofValue v with
    | none => rw [hv] at h; cases h
    | some c' => rw [hv] at h; cases h; exact VR.ofValue hv ρ
  | func f => cases h; exact VR.func _ .nil .nil [] [] rfl rfl (fun i v v' h => by simp [row, Segs.cells] at h) (fun i v v' h => by simp [row, Segs.cells] at h)
  | global g => cases h

inductive OR where
  | ok (v : CV) (st : St)
  | bad

/-- What a piece of the model's semantics comes to, as the clean operation has it. -/
def DoesV (P : Program) (s : Sem Value) (ρ : Ren) (st : St) (w : World) (v : CV) (st' : St) : Prop :=
  ∃ v' w' ρ', s.run P w = .ok v' w' ∧ VR ρ' v v' ∧ After ρ st w ρ' st' w'
def DoesU (P : Program) (s : Sem Unit) (ρ : Ren) (st : St) (w : World) (v : CV) (st' : St) : Prop :=
  ∃ w' ρ', s.run P w = .ok () w' ∧ v = .undef ∧ After ρ st w ρ' st' w'
def Does (P : Program) (s : Sem Next) (ρ : Ren) (st : St) (w : World) (v : CV) (st' : St) : Prop :=
  ∃ x v' w' ρ', s.run P w = .ok x w' ∧ (x = .value v' ∨ (x = .skip ∧ v' = Go.undef)) ∧ VR ρ' v v' ∧ After ρ st w ρ' st' w'

section
variable {P : Program} {ρ : Ren} {st st' : St} {w : World} {v : CV}
theorem DoesV.still {s : Sem Value} {v' : Value} (hw : WR ρ st w) (h : s.run P w = .ok v' w) (hv : VR ρ v v') : DoesV P s ρ st w v st := ⟨v', w, ρ, h, hv, After.refl hw⟩
theorem DoesV.does {s : Sem Value} (h : DoesV P s ρ st w v st') : Does P (do pure (Next.value (← s))) ρ st w v st' := by
  obtain ⟨v', w', ρ', h1, h2, h3⟩ := h
  exact ⟨.value v', v', w', ρ', by simp [h1], .inl rfl, h2, h3⟩
theorem DoesU.does {s : Sem Unit} (h : DoesU P s ρ st w v st') : Does P (do s; pure Next.skip) ρ st w v st' := by
  obtain ⟨w', ρ', h1, rfl, h3⟩ := h
  exact ⟨.skip, Go.undef, w', ρ', by simp [h1], .inr ⟨rfl, rfl⟩, .undef, h3⟩

/- pick -/
noncomputable def pPick (c a b : CV) (st : St) : OR := match c with | .bool t => bsel t (.ok a st) (.ok b st) | _ => .bad
theorem pPick_sound {c a b : CV} {c' a' b' : Value} (h : pPick c a b st = .ok v st') (hw : WR ρ st w) (hc : VR ρ c c') (ha : VR ρ a a') (hb : VR ρ b b') :
    Does P (do pure (Next.value (if ← asBool c' then a' else b'))) ρ st w v st' := by
  unfold pPick at h
  split at h
  · rename_i t
    cases hc
    cases t with
    | true => cases h; exact ⟨_, a', w, ρ, by simp [asBool], .inl rfl, ha, After.refl hw⟩
    | false => cases h; exact ⟨_, b', w, ρ, by simp [asBool], .inl rfl, hb, After.refl hw⟩
  · cases h

/- new variables -/
theorem After.newRow {s : Segs CV} {l : List Value} {t : TypeId} (hw : WR ρ st w) (hs : ∀ ρ', ρ.le ρ' → VRs ρ' (row s) l) (g : Bool) :
    ∃ ρ', (newRow t l.toArray).run P w = .ok ⟨w.heap.size, 0, none⟩ { w with heap := w.heap.push (.cells l.toArray t) } ∧
      ρ' st.next = some (w.heap.size, l.length) ∧ After ρ st w ρ' (st.new (.cells s t g)) { w with heap := w.heap.push (.cells l.toArray t) } := by
  have hne : ∀ b x, ρ b = some x → b ≠ st.next := fun b x hx e => by have := hw.fresh b x hx; rw [e] at this; omega
  have hle : ρ.le (ρ.set st.next (w.heap.size, l.length)) := fun b _ hr => by rw [Ren.set_ne _ _ _ _ (hne b _ hr)]; exact hr
  have hv := hs _ hle
  have hlen : s.size = l.length := by rw [← row_length, hv.len]
  have hb := BR.cells (ρ := ρ.set st.next (w.heap.size, l.length)) s t g l.toArray 0 0 (by simp [hlen]) (by
    rw [hlen]; simpa using hv) (by omega) (by intros; omega)
  have ha := After.new hw (blk := .cells s t g) (o := .cells l.toArray t) (sz := l.length) (by simpa using hb)
  exact ⟨_, rfl, ha.2, ha.1⟩

noncomputable def pNew (t : TypeId) (s : Segs CV) (st : St) : OR := forceB st.next.succ fun n => .ok (.ptr st.next 0) ⟨st.mem.put st.next (some (.cells s t false)), n⟩
theorem pNew_eq (t : TypeId) (s : Segs CV) (st : St) : pNew t s st = .ok (.ptr st.next 0) (st.new (.cells s t false)) := by
  unfold pNew; rw [forceB_eq]; rfl
theorem pAlloc_sound {t : TypeId} {z : Segs CV} {i : TypeInfo} {z' : Value} (h : pNew t z st = .ok v st') (hw : WR ρ st w) (hi : P.info? t = some i) (hz : i.zero = some z')
    (hc : ∀ ρ, VRs ρ (row z) z'.cells.toList) : DoesV P (Instr.alloc t true (.tuple #[])) ρ st w v st' := by
  rw [pNew_eq] at h; cases h
  obtain ⟨ρ', h1, h2, h3⟩ := After.newRow (P := P) (t := t) hw (fun ρ' _ => hc ρ') false
  rw [Array.toArray_toList] at h1 h3
  refine ⟨.pointer (some ⟨w.heap.size, 0, none⟩), _, ρ', ?_, .ptr _ _ _ _ h2, h3⟩
  simp [Instr.alloc, zeroValue, typeInfo, hi, hz, newVar, h1]
theorem pBox_sound {t : TypeId} {x : CV} {x' : Value} (h : x.segs.force (fun s => pNew t s st) = .ok v st') (hw : WR ρ st w) (hx : VR ρ x x') :
    DoesV P (Instr.box t x') ρ st w v st' := by
  rw [Segs.force_eq, pNew_eq] at h; cases h
  obtain ⟨ρ', h1, h2, h3⟩ := After.newRow (P := P) (t := t) hw (fun ρ' hle => (hx.mono hle).segs) false
  rw [Array.toArray_toList] at h1 h3
  refine ⟨.pointer (some ⟨w.heap.size, 0, none⟩), _, ρ', ?_, .ptr _ _ _ _ h2, h3⟩
  simp [Instr.box, newVar, h1]

/- loads -/
noncomputable def pLoad1 (p : CV) (st : St) : OR :=
  match p with
  | .ptr b off => (match st.mem.get b with
    | some (.cells s _ _) => Option.rec .bad (fun v => .ok v st) (s.get byteV off)
    | _ => .bad)
  | _ => .bad
noncomputable def pLoadN (n : Nat) (p : CV) (st : St) : OR :=
  match p with
  | .ptr b off => (match st.mem.get b with
    | some (.cells s _ _) => Option.rec .bad (fun v => .ok (.agg v) st) (s.extract off n)
    | _ => .bad)
  | _ => .bad
theorem row_get {s : Segs CV} {l : List Value} (h : VRs ρ (row s) l) {off : Nat} {x : CV} (hx : s.get byteV off = some x) : ∃ x', l[off]? = some x' ∧ VR ρ x x' := by
  rw [Segs.get_eq] at hx; exact h.get hx
theorem take_get {l : List Value} {n i : Nat} {x : Value} (h : (l.take n)[i]? = some x) : l[i]? = some x := by
  rw [List.getElem?_take] at h; split at h
  · exact h
  · cases h
theorem pLoad1_sound {t : TypeId} {p : CV} {p' : Value} (h : pLoad1 p st = .ok v st') (hw : WR ρ st w) (hp : VR ρ p p') (ht : (isAgg t).run P w = .ok false w) :
    DoesV P (Instr.loadAt t p') ρ st w v st' := by
  unfold pLoad1 at h
  split at h
  · rename_i b off
    split at h
    · rename_i s t' g hm
      cases hx : s.get byteV off with
      | none => rw [hx] at h; cases h
      | some x =>
        rw [hx] at h; cases h
        cases hp with
        | ptr _ _ r sz hr =>
          obtain ⟨c, lo, hi, e1, e2, e3, e4, e5⟩ := hw.row hm hr
          obtain ⟨x', g1, g2⟩ := row_get e4 hx
          refine DoesV.still hw ?_ g2
          simp [Instr.loadAt, Instr.sureAddr, loadVar, ht, run_load_row P w r off c t' (lo, hi) x' e1 (take_get g1), -run_load]
    · cases h
  · cases h
theorem pLoadN_sound {t : TypeId} {n : Nat} {p : CV} {p' : Value} (h : pLoadN n p st = .ok v st') (hw : WR ρ st w) (hp : VR ρ p p') (ht : (isAgg t).run P w = .ok true w)
    (hn : (Go.sizeOf t).run P w = .ok n w) : DoesV P (Instr.loadAt t p') ρ st w v st' := by
  unfold pLoadN at h
  split at h
  · rename_i b off
    split at h
    · rename_i s t' g hm
      cases hx : s.extract off n with
      | none => rw [hx] at h; cases h
      | some x =>
        rw [hx] at h; cases h
        cases hp with
        | ptr _ _ r sz hr =>
          obtain ⟨c, lo, hi, e1, e2, e3, e4, e5⟩ := hw.row hm hr
          obtain ⟨g1, g2⟩ := Segs.extract_some hx
          refine DoesV.still hw (v' := .agg ((c.toList.drop off).take n).toArray) ?_ (VR.agg' ?_)
          · simp [Instr.loadAt, Instr.sureAddr, loadVar, ht, hn, run_loadCells_row P w r off n c t' (lo, hi) e1 (by omega)]
          · have := g2 byteV
            rw [show row x = ((row s).drop off).take n from this]
            have e : (c.toList.drop off).take n = ((c.toList.take s.size).drop off).take n := by
              rw [List.drop_take, List.take_take, Nat.min_eq_left (by omega)]
            rw [e]; exact (e4.drop off).take n
    · cases h
  · cases h

/- stores -/
noncomputable def pStore (n : Nat) (p x : CV) (st : St) : OR :=
  match p with
  | .ptr b off => (match st.mem.get b with
    | some (.cells s t g) => (fun xs => bsel (Bool.and (Nat.beq xs.size n) (oneCells xs)) (Option.rec .bad (fun s' => .ok .undef ⟨st.mem.put b (some (.cells s' t g)), st.next⟩) (s.write off xs)) .bad) x.segs
    | _ => .bad)
  | _ => .bad
theorem pStore_sound {t : TypeId} {n : Nat} {p x : CV} {p' x' : Value} (h : pStore n p x st = .ok v st') (hw : WR ρ st w) (hp : VR ρ p p') (hx : VR ρ x x')
    (hn : (Go.sizeOf t).run P w = .ok n w) : DoesU P (Instr.storeAt t p' x') ρ st w v st' := by
  unfold pStore at h
  split at h
  · rename_i b off
    split at h
    · rename_i s t' g hm
      simp only [bsel_eq, Bool.and_eq_true, Nat.beq_eq] at h
      split at h
      · rename_i hc
        cases hs : s.write off x.segs with
        | none => rw [hs] at h; cases h
        | some s' =>
          rw [hs] at h; cases h
          cases hp with
          | ptr _ _ r sz hr =>
            obtain ⟨w', h1, h2⟩ := After.write (P := P) hw hm hr hs hx.segs hc.2
            refine ⟨w', ρ, ?_, rfl, h2⟩
            have hl : x'.cells.size = n := by have := hx.segs.len; rw [row_length, hc.1] at this; simpa using this.symm
            simp [Instr.storeAt, Instr.sureAddr, storeVar, hn, hl, h1]
      · cases h
    · cases h
  · cases h

/- nilCheck -/
noncomputable def pNil (x : CV) (st : St) : OR := match x with | .ptr .. | .iface .. | .func (.func _) _ _ => .ok x st | _ => .bad
theorem pNil_sound {x : CV} {x' : Value} (h : pNil x st = .ok v st') (hw : WR ρ st w) (hx : VR ρ x x') {o : Oper} {y : Operand} {f : Operand → Value} (ho : o.op = .nilCheck y) (hy : f y = x') :
    Does P (execOp f o) ρ st w v st' := by
  unfold pNil at h
  have key : ∀ {z : Value}, f y = z → (match z with | .pointer none | .nilIface | .nilFunc | .func (.method _) _ _ => False | _ => True) → (execOp f o).run P w = .ok (.value z) w := by
    intro z hz hn
    unfold execOp; rw [ho]
    simp only [hz]
    split <;> first | (exact hn.elim) | rfl
  split at h
  · cases h; cases hx with | ptr _ _ _ _ hr => exact ⟨_, _, w, ρ, key hy trivial, .inl rfl, .ptr _ _ _ _ hr, After.refl hw⟩
  · cases h; cases hx with | iface _ _ _ hr => exact ⟨_, _, w, ρ, key hy trivial, .inl rfl, .iface _ _ _ hr, After.refl hw⟩
  · cases h
    have hx' := hx
    cases hx with | func _ _ _ f' c' hf hc h1 h2 => exact ⟨_, _, w, ρ, key hy trivial, .inl rfl, hx', After.refl hw⟩
  · cases h

/- tuples -/
noncomputable def pExtract (x : CV) (i : Nat) (st : St) : OR := match x with | .tuple s => Option.rec .bad (fun v => .ok v st) (s.get byteV i) | _ => .bad
theorem pExtract_sound {x : CV} {x' : Value} {i : Nat} (h : pExtract x i st = .ok v st') (hw : WR ρ st w) (hx : VR ρ x x') : DoesV P (Instr.extract x' i) ρ st w v st' := by
  unfold pExtract at h
  split at h
  · rename_i s
    cases hs : s.get byteV i with
    | none => rw [hs] at h; cases h
    | some y =>
      rw [hs] at h; cases h
      cases hx with
      | tuple _ l hl hh =>
        obtain ⟨y', g1, g2⟩ := row_get (ρ := ρ) (s := s) ⟨hl, hh⟩ hs
        refine DoesV.still hw ?_ g2
        simp [Instr.extract, g1]
  · cases h
end
end Sim
