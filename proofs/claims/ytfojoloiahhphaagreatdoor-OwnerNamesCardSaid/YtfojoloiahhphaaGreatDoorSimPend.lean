import Derived.Test.YtfojoloiahhphaaGreatDoorSimDraw1
/- Sim, part 22b: blocks that are laid ahead: in the clean memory, not yet in the world. -/
namespace Sim
open Go

noncomputable def newF (P : Program) (o : Oper) : Option (TypeId × Segs CV) :=
  match o.op with
  | .alloc t => (match infoT P t with | some i => (match zrow i with | some z => some (t, z) | none => none) | none => none)
  | _ => none
/-- A slice of parts: a block of its own; late: it may come at any moment. -/
noncomputable def lateF (P : Program) (o : Oper) : Option (Nat × Nat × Segs CV × List PartA) :=
  match o.op with
  | .buildSlice t len parts => (match undT P t with
    | some (.slice e) => (match infoT P e with
      | some i => bsel (Nat.ble (Nat.mul len i.size) 16777216) (match zrow i, cParts (placeA i.size) parts.toList with | some z, some ps => some (e, len, z, ps) | _, _ => none) none
      | none => none)
    | _ => none)
  | _ => none
noncomputable def isB (P : Program) (o : Oper) : Bool := Option.rec (motive := fun _ => Bool) false (fun _ => true) (lateF P o)
noncomputable def pLateAt (b : Bp) (e len : Nat) (z : Segs CV) (parts : List Part) (st : St) : OR :=
  Option.rec (motive := fun _ => OR) (Option.rec .bad (fun s => s.force fun s => .ok (.slice b 0 len len 0) ⟨st.mem.put b (some (.cells s e false)), st.next⟩) (fillS parts z)) (fun _ => .bad) (st.mem.get b)
noncomputable def pNewAt (b : Bp) (z : Segs CV) (t : TypeId) (st : St) : OR := onBlk (st.mem.get b) fun s u _ => bsel (Bool.and (segE s z) (Nat.beq u t)) (.ok (.ptr b 0) st) .bad
noncomputable def stepD (P : Program) (call : CallF) (ops : Array Oper) (ab : Option Bp) (o : Oper) (fr : Fr) (st : St) : OR :=
  match newF P o, ab with
  | none, none => stepC P call ops o fr st
  | some tz, some b => (match wantedC ops fr o with | some true => pNewAt b tz.2 tz.1 st | some false => .ok .undef st | none => .bad)
  | none, some b => (match lateF P o with
    | some x => (match wantedC ops fr o with | some true => pLateAt b x.1 x.2.1 (repS x.2.1 x.2.2.1) (evP fr x.2.2.2) st | some false => .ok .undef st | none => .bad)
    | none => .bad)
  | _, _ => .bad
noncomputable def isW (P : Program) (o : Oper) : Bool := match newF P o with | some _ => false | none => (match lateF P o with | some _ => false | none => (match compOpT P o.op with | some op => Bool.not op.still | none => false))
theorem lateF_comp {P : Program} {o : Oper} {e len : Nat} {z : Segs CV} {ps : List PartA} (h : lateF P o = some (e, len, z, ps)) : compOpT P o.op = some (.buildSlice e len z ps) := by
  unfold lateF at h
  unfold compOpT
  split at h
  · rename_i t l parts ho
    rw [ho]
    dsimp only
    split at h
    · rename_i e' hu
      rw [hu]
      dsimp only
      split at h
      · rename_i i hi
        rw [hi]
        dsimp only
        rw [bsel_eq] at h ⊢
        split at h
        · rename_i hb
          rw [if_pos hb]
          split at h
          · rename_i z' ps' hz hp
            cases h
            rw [hz, hp]
          · cases h
        · cases h
      · cases h
    · cases h
  · cases h
theorem newF_late {P : Program} {o : Oper} (h : newF P o ≠ none) : lateF P o = none := by
  unfold newF at h
  unfold lateF
  split at h
  · rename_i t ho; rw [ho]
  · exact absurd rfl h

section
variable {P : Program} {ρ : Ren} {st st' : St} {w : World} {v : CV} {fr : Fr} {a : Act} {call : CallF}
/-- The clean memory may be turned where nothing is known. -/
theorem After.silent {ρ0 : Ren} {st0 M M2 : St} {w0 : World} (h : After ρ0 st0 w0 ρ M w) (hm : ∀ q x, ρ q = some x → M2.mem.get q = M.mem.get q) (hn : M2.next = M.next) : After ρ0 st0 w0 ρ M2 w where
  wr := ⟨fun b blk r sz h1 h2 => h.wr.at' b blk r sz (by rw [← hm b _ h2]; exact h1) h2, fun b b' k k' r s s' h1 h2 h3 h4 => h.wr.inj b b' k k' r s s' (by rw [← hm b _ h3]; exact h1) (by rw [← hm b' _ h4]; exact h2) h3 h4, fun b x hx => by rw [hn]; exact h.wr.fresh b x hx, h.wr.glob.sub fun b blk r sz h1 h2 => ⟨blk, by rw [← hm b _ h2]; exact h1⟩⟩
  ext := h.ext
  dom := h.dom
  next := by rw [hn]; exact h.next
  origin := fun b blk r sz h1 h2 => h.origin b blk r sz (by rw [← hm b _ h2]; exact h1) h2
  kept := h.kept
  size := h.size
  os := h.os
  output := h.output
theorem WR.sub {M s : St} (h : WR ρ M w) (hm : ∀ q x, ρ q = some x → s.mem.get q = M.mem.get q ∨ s.mem.get q = none) (hn : s.next = M.next) : WR ρ s w := by
  have key : ∀ b blk x, s.mem.get b = some blk → ρ b = some x → M.mem.get b = some blk := fun b blk x h1 h2 => by
    rcases hm b x h2 with e | e
    · rw [← e]; exact h1
    · rw [e] at h1; cases h1
  exact ⟨fun b blk r sz h1 h2 => h.at' b blk r sz (key b blk _ h1 h2) h2, fun b b' k k' r z z' h1 h2 h3 h4 => h.inj b b' k k' r z z' (key b k _ h1 h3) (key b' k' _ h2 h4) h3 h4, fun b x hx => by rw [hn]; exact h.fresh b x hx, h.glob.sub fun b blk r sz h1 h2 => ⟨blk, key b blk _ h1 h2⟩⟩
/-- What is not looked at stays. -/
theorem After.frame {M M' s s' : St} {ρ' : Ren} {w' : World} (h : WR ρ M w) (hn : s.next = M.next) (hm : ∀ q x, ρ q = some x → s.mem.get q = M.mem.get q ∨ s.mem.get q = none) (hA : After ρ s w ρ' s' w') (hn' : M'.next = s'.next)
    (hm' : ∀ q x, ρ' q = some x → M'.mem.get q = s'.mem.get q ∨ ((∃ y, ρ q = some y) ∧ s.mem.get q = none ∧ M'.mem.get q = M.mem.get q)) : After ρ M w ρ' M' w' := by
  have low : ∀ q blk r sz, M.mem.get q = some blk → ρ q = some (r, sz) → r < w.heap.size := fun q blk r sz h1 h2 => by
    obtain ⟨o, e2, _⟩ := h.at' q blk r sz h1 h2
    exact (Array.getElem?_eq_some_iff.1 e2).1
  have up : ∀ q blk x, s.mem.get q = some blk → ρ q = some x → M.mem.get q = some blk := fun q blk x h1 h2 => by
    rcases hm q x h2 with e | e
    · rw [← e]; exact h1
    · rw [e] at h1; cases h1
  have mix : ∀ b blk r sz, s'.mem.get b = some blk → ρ' b = some (r, sz) → ∀ q blk' sz', s.mem.get q = none → M.mem.get q = some blk' → ρ q = some (r, sz') → False := by
    intro b blk r sz h1 h2 q blk' sz' h3 h4 h5
    rcases hA.origin b blk r sz h1 h2 with ⟨b0, blk0, sz0, g1, g2⟩ | g
    · have := h.inj b0 q blk0 blk' r sz0 sz' (up b0 blk0 _ g1 g2) h4 g2 h5
      subst this
      rw [h3] at g1; cases g1
    · have := low q blk' r sz' h4 h5; omega
  have hor : ∀ b blk r sz, M'.mem.get b = some blk → ρ' b = some (r, sz) → (∃ b0 blk0 sz0, M.mem.get b0 = some blk0 ∧ ρ b0 = some (r, sz0)) ∨ w.heap.size ≤ r := fun b blk r sz h1 h2 => by
    rcases hm' b _ h2 with e | ⟨⟨y, e2⟩, e3, e4⟩
    · rcases hA.origin b blk r sz (by rw [← e]; exact h1) h2 with ⟨b0, blk0, sz0, g1, g2⟩ | g
      · exact .inl ⟨b0, blk0, sz0, up b0 blk0 _ g1 g2, g2⟩
      · exact .inr g
    · have := hA.ext b y e2
      rw [h2] at this; cases this
      exact .inl ⟨b, blk, sz, by rw [← e4]; exact h1, e2⟩
  have hkp : ∀ r : Nat, r < w.heap.size → (∀ b blk sz, M.mem.get b = some blk → ρ b ≠ some (r, sz)) → w'.heap[r]? = w.heap[r]? := fun r hr hk => hA.kept r hr fun b blk sz g1 g2 => hk b blk sz (up b blk _ g1 g2) g2
  refine ⟨⟨fun b blk r sz h1 h2 => ?_, fun b b' k k' r z z' h1 h2 h3 h4 => ?_, fun b x hx => by rw [hn']; exact hA.wr.fresh b x hx, h.glob.keep hor hkp⟩, hA.ext, fun q hq hr => hA.dom q (by rw [hn]; exact hq) hr, by rw [hn', ← hn]; exact hA.next, fun b blk r sz h1 h2 => ?_, fun r hr hk => hA.kept r hr fun b blk sz g1 g2 => hk b blk sz (up b blk _ g1 g2) g2, hA.size, hA.os, hA.output⟩
  · rcases hm' b _ h2 with e | ⟨⟨y, e2⟩, e3, e4⟩
    · exact hA.wr.at' b blk r sz (by rw [← e]; exact h1) h2
    · have := hA.ext b y e2
      rw [h2] at this; cases this
      rw [e4] at h1
      obtain ⟨o, g1, g2⟩ := h.at' b blk r sz h1 e2
      refine ⟨o, ?_, g2.mono hA.ext⟩
      rw [hA.kept r (low b blk r sz h1 e2)]
      · exact g1
      · intro b' blk' sz' g3 g4
        have := h.inj b' b blk' blk r sz' sz (up b' blk' _ g3 g4) h1 g4 e2
        subst this
        rw [e3] at g3; cases g3
  · rcases hm' b _ h3 with e | ⟨⟨y, e2⟩, e3, e4⟩
    · rcases hm' b' _ h4 with f | ⟨⟨y', f2⟩, f3, f4⟩
      · exact hA.wr.inj b b' k k' r z z' (by rw [← e]; exact h1) (by rw [← f]; exact h2) h3 h4
      · have := hA.ext b' y' f2
        rw [h4] at this; cases this
        exact absurd (mix b k r z (by rw [← e]; exact h1) h3 b' k' z' f3 (by rw [← f4]; exact h2) f2) id
    · have := hA.ext b y e2
      rw [h3] at this; cases this
      rcases hm' b' _ h4 with f | ⟨⟨y', f2⟩, f3, f4⟩
      · exact absurd (mix b' k' r z' (by rw [← f]; exact h2) h4 b k z e3 (by rw [← e4]; exact h1) e2) id
      · have := hA.ext b' y' f2
        rw [h4] at this; cases this
        exact h.inj b b' k k' r z z' (by rw [← e4]; exact h1) (by rw [← f4]; exact h2) e2 f2
  · rcases hm' b _ h2 with e | ⟨⟨y, e2⟩, e3, e4⟩
    · rcases hA.origin b blk r sz (by rw [← e]; exact h1) h2 with ⟨b0, blk0, sz0, g1, g2⟩ | g
      · exact .inl ⟨b0, blk0, sz0, up b0 blk0 _ g1 g2, g2⟩
      · exact .inr g
    · have := hA.ext b y e2
      rw [h2] at this; cases this
      exact .inl ⟨b, blk, sz, by rw [← e4]; exact h1, e2⟩
/-- A block that waited comes into the world. -/
theorem After.come {ρ0 : Ren} {st0 M : St} {w0 : World} {b : Bp} {s : Segs CV} {t : TypeId} {g : Bool} {l : List Value} (hA : After ρ0 st0 w0 ρ M w) (hm : M.mem.get b = some (.cells s t g)) (hb : ρ b = none) (hlt : b.dec < M.next.dec) (hl : VRs ρ (row s) l) (hN : st0.next.dec ≤ b.dec) :
    After ρ0 st0 w0 (ρ.set b (w.heap.size, l.length)) M { w with heap := w.heap.push (.cells l.toArray t) } := by
  have hw := hA.wr
  have hle : ρ.le (ρ.set b (w.heap.size, l.length)) := fun q x hx => by
    rw [Ren.set_ne _ _ _ _ (fun e => by subst e; rw [hb] at hx; cases hx)]; exact hx
  have hlow : ∀ q blk r s, M.mem.get q = some blk → ρ q = some (r, s) → r < w.heap.size := fun q blk r s h1 h2 => by
    obtain ⟨o, e2, _⟩ := hw.at' q blk r s h1 h2
    exact (Array.getElem?_eq_some_iff.1 e2).1
  have hwr : WR (ρ.set b (w.heap.size, l.length)) M { w with heap := w.heap.push (.cells l.toArray t) } := by
    refine ⟨fun q blk r sz h1 h2 => ?_, fun q q' blk blk' r sz sz' h1 h2 h3 h4 => ?_, fun q x hx => ?_, hw.glob.keep (fun q blk r sz h1 h2 => ?_) (fun r hr _ => ?_)⟩
    · by_cases e : q = b
      · subst e
        rw [Ren.set_same] at h2; cases h2
        rw [hm] at h1; cases h1
        have hlen : s.size = l.length := by rw [← row_length, hl.len]
        refine ⟨.cells l.toArray t, by simp, ?_⟩
        have hbr := BR.cells (ρ := ρ.set q (w.heap.size, l.length)) s t g l.toArray 0 0 (by simp [hlen]) (by rw [hlen]; simpa using hl.mono hle) (by omega) (by intros; omega)
        simpa using hbr
      · rw [Ren.set_ne _ _ _ _ e] at h2
        obtain ⟨o, e2, e3⟩ := hw.at' q blk r sz h1 h2
        refine ⟨o, ?_, e3.mono hle⟩
        have := (Array.getElem?_eq_some_iff.1 e2).1
        show (w.heap.push _)[r]? = _
        rw [Array.getElem?_push, if_neg (by omega)]; exact e2
    · by_cases e : q = b
      · by_cases e' : q' = b
        · rw [e, e']
        · rw [e, Ren.set_same] at h3; cases h3
          rw [Ren.set_ne _ _ _ _ e'] at h4
          have := hlow q' blk' _ _ h2 h4; omega
      · by_cases e' : q' = b
        · rw [e', Ren.set_same] at h4; cases h4
          rw [Ren.set_ne _ _ _ _ e] at h3
          have := hlow q blk _ _ h1 h3; omega
        · rw [Ren.set_ne _ _ _ _ e] at h3; rw [Ren.set_ne _ _ _ _ e'] at h4
          exact hw.inj q q' blk blk' r sz sz' h1 h2 h3 h4
    · by_cases e : q = b
      · subst e; exact hlt
      · rw [Ren.set_ne _ _ _ _ e] at hx; exact hw.fresh q x hx
    · by_cases e : q = b
      · subst e; rw [Ren.set_same] at h2; cases h2; exact .inr (Nat.le_refl _)
      · rw [Ren.set_ne _ _ _ _ e] at h2; exact .inl ⟨q, blk, sz, h1, h2⟩
    · show (w.heap.push _)[r]? = _
      rw [Array.getElem?_push, if_neg (by omega)]
  refine ⟨hwr, fun q x hx => hle q x (hA.ext q x hx), fun q hq hn => ?_, hA.next, fun q blk r sz h1 h2 => ?_, fun r hr hn => ?_, ?_, hA.os, hA.output⟩
  · rw [Ren.set_ne _ _ _ _ (fun e => by subst e; omega)]; exact hA.dom q hq hn
  · by_cases e : q = b
    · subst e; rw [Ren.set_same] at h2; cases h2; exact .inr hA.size
    · rw [Ren.set_ne _ _ _ _ e] at h2; exact hA.origin q blk r sz h1 h2
  · show (w.heap.push _)[r]? = _
    have := hA.size
    rw [Array.getElem?_push, if_neg (by omega)]; exact hA.kept r hr hn
  · show w0.heap.size ≤ (w.heap.push _).size
    have := hA.size
    rw [Array.size_push]; omega

theorem newF_some {o : Oper} {t : TypeId} {z : Segs CV} (h : newF P o = some (t, z)) : ∃ l : List Value, (∀ ρ, VRs ρ (row z) l) ∧
    ∀ (f : Operand → Value) (w : World), (execOp f o).run P w = .ok (.value (.pointer (some ⟨w.heap.size, 0, none⟩))) { w with heap := w.heap.push (.cells l.toArray t) } := by
  unfold newF at h
  split at h
  · rename_i t' ho
    rw [infoT_eq] at h
    split at h
    · rename_i i hi
      split at h
      · rename_i z' hz
        cases h
        obtain ⟨zv, z1, z2, z3⟩ := zrow_some hz
        refine ⟨zv.cells.toList, z3, fun f w => ?_⟩
        unfold execOp
        rw [ho]
        simp [Instr.alloc, zeroValue, typeInfo, hi, z1, newVar]
        rfl
      · cases h
    · cases h
  · cases h

theorem fill_rows {i : TypeInfo} {len : Nat} {z s : Segs CV} {z' : Value} {parts : List Part} {parts' : Array (Nat × Value)} (hf : fillS parts (repS len z) = some s) (hsz : z'.cells.size = i.size) (hzz : ∀ ρ, VRs ρ (row z) z'.cells.toList) (hp : PartsR ρ (placeA i.size) parts parts'.toList) :
    ∃ cells', Instr.fill (placeA i.size) ((Array.range (len * i.size)).map (z'.cells[· % z'.cells.size]!)) parts'.toList = some cells' ∧ VRs ρ (row s) cells'.toList := by
  have hrow : (List.replicate len z'.cells.toList).flatten = ((Array.range (len * i.size)).map (z'.cells[· % z'.cells.size]!)).toList := by
    rw [← hsz, Array.toList_map, Array.toList_range]; exact (range_mod z'.cells len).symm
  have hvz : VRs ρ (row (repS len z)) ((Array.range (len * i.size)).map (z'.cells[· % z'.cells.size]!)).toList := by
    rw [row_repS, ← hrow]; exact (hzz ρ).flatten len
  exact fill_sound hp hf hvz
theorem late_run {o : Oper} {e len : Nat} {z s : Segs CV} {ps : List PartA} (h : lateF P o = some (e, len, z, ps)) (hf : FR ρ fr a.tmps) (hs : fillS (evP fr ps) (repS len z) = some s) :
    ∃ l : List Value, VRs ρ (row s) l ∧ ∀ w, (execOp a.eval o).run P w = .ok (.value (.slice (some ⟨w.heap.size, 0, none⟩) len len)) { w with heap := w.heap.push (.cells l.toArray e) } := by
  unfold lateF at h
  split at h
  · rename_i t l parts ho
    rw [undT_eq] at h
    split at h
    · rename_i e' hu
      rw [infoT_eq] at h
      split at h
      · rename_i i hi
        simp only [bsel_eq, Nat.ble_eq] at h
        split at h
        · rename_i hle
          split at h
          · rename_i z' ps' hz hp
            cases h
            obtain ⟨zv, z1, z2, z3⟩ := zrow_some hz
            have hpp := cParts_sound hp hf
            obtain ⟨cells', f1, f2⟩ := fill_rows (parts' := parts.map fun p => (p.1, a.eval p.2)) hs z2 z3 (by rw [Array.toList_map]; exact hpp)
            refine ⟨cells'.toList, f2, fun w => ?_⟩
            have hn : ¬ (len * i.size > 2 ^ 24) := by have hle' : len * i.size ≤ 16777216 := hle; show ¬ (len * i.size > 16777216); omega
            have h1 : ∀ c : Array Value, (newRow e c).run P w = .ok ⟨w.heap.size, 0, none⟩ { w with heap := w.heap.push (.cells c e) } := fun c => rfl
            have he : execOp a.eval o = (do let v ← Instr.buildSlice t len (parts.map fun p => (p.1, a.eval p.2)); pure (.value v)) := by
              unfold execOp; rw [ho]
            have hpl : (fun k => some (k * i.size, i.size)) = placeA i.size := rfl
            rw [he, Array.toArray_toList]
            simp only [Instr.buildSlice, Sem.run_bind, run_underlying hu, Result.andThen_ok, Go.sizeOf, typeInfo, run_program, hi, Sem.run_pure, if_neg hn]
            by_cases h0 : len * i.size = 0
            · have hz0 : ((Array.range (len * i.size)).map (zv.cells[· % zv.cells.size]!)) = ((Array.range (len * i.size)).map ((#[] : Array Value)[· % (#[] : Array Value).size]!)) := by
                rw [h0, Array.range_zero']; simp
              rw [hz0] at f1
              rw [if_pos h0]
              show Result.andThen (Sem.run P (do
                let some cells := Instr.fill (placeA i.size) ((Array.range (len * i.size)).map ((#[] : Array Value)[· % (#[] : Array Value).size]!)) (parts.map fun p => (p.1, a.eval p.2)).toList | stuck "buildSlice: a part of the wrong size"
                pure (Value.slice (some (← newRow e cells)) len len)) w) _ = _
              rw [f1]
              simp only [Sem.run_bind, h1, Result.andThen_ok, Sem.run_pure]
            · rw [if_neg h0]
              simp only [zeroValue, typeInfo, Sem.run_bind, run_program, Result.andThen_ok, hi, z1, Sem.run_pure]
              rw [hpl, f1]
              simp only [Sem.run_bind, h1, Result.andThen_ok, Sem.run_pure]
          · cases h
        · cases h
      · cases h
    · cases h
  · cases h

/-- A step of a block laid ahead. -/
theorem stepNew_sound {ops : Array Oper} {b : Bp} {o : Oper} {tz : TypeId × Segs CV} (hnf : newF P o = some tz) {M : St} (h : stepD P call ops (some b) o fr st = .ok v st') (hm : M.mem.get b = st.mem.get b) {ρ0 : Ren} {st0 : St} {w0 : World} (hA : After ρ0 st0 w0 ρ M w) (hf : FR ρ fr a.tmps) (hb : ρ b = none) (hlt : b.dec < M.next.dec) (hN : st0.next.dec ≤ b.dec)
    {next : Act → World → Prop} {Q : Exit → Act → World → Prop} (hn : ∀ v' w' ρ', VR ρ' v v' → After ρ0 st0 w0 ρ' M w' → ρ.le ρ' → (∀ q, q ≠ b → ρ' q = ρ q) → next (a.put o.dst v') w') :
    if Region.wanted o (yielded ops a.tmps) then o.wp P a w next Q else next (a.put o.dst undef) w := by
  obtain ⟨t, z⟩ := tz
  unfold stepD at h
  rw [hnf] at h
  dsimp only at h
  split at h
  · rename_i hwt
    rw [if_pos (wantedC_sound hwt hf)]
    unfold pNewAt at h
    rw [onBlk_eq] at h
    split at h
    · rename_i s u g hmm
      simp only [bsel_eq, Bool.and_eq_true, Nat.beq_eq] at h
      split at h
      · rename_i hh
        obtain ⟨h1, rfl⟩ := hh
        have := segE_sound h1; subst this
        cases h
        obtain ⟨l, hl, hrun⟩ := newF_some hnf
        unfold Oper.wp
        rw [hrun]
        exact hn _ _ _ (.ptr b 0 _ _ (Ren.set_same ρ b _)) (hA.come (by rw [hm]; exact hmm) hb hlt (hl ρ) hN) (fun q x hx => by rw [Ren.set_ne _ _ _ _ (fun e => by subst e; rw [hb] at hx; cases hx)]; exact hx) (fun q hq => Ren.set_ne _ _ _ _ hq)
      · cases h
    · cases h
  · rename_i hwt
    rw [if_neg (by rw [wantedC_sound hwt hf]; simp)]
    cases h
    exact hn _ w ρ .undef hA (fun _ _ h => h) fun _ _ => rfl
  · cases h

/-- What a late step comes to. -/
theorem stepLate_inv {ops : Array Oper} {b : Bp} {o : Oper} {x : Nat × Nat × Segs CV × List PartA} (hl : lateF P o = some x) (h : stepD P call ops (some b) o fr st = .ok v st') :
    (wantedC ops fr o = some false ∧ v = .undef ∧ st' = st) ∨
    (wantedC ops fr o = some true ∧ ∃ s, fillS (evP fr x.2.2.2) (repS x.2.1 x.2.2.1) = some s ∧ st.mem.get b = none ∧ v = .slice b 0 x.2.1 x.2.1 0 ∧ st' = ⟨st.mem.put b (some (.cells s x.1 false)), st.next⟩) := by
  have hn : newF P o = none := by
    cases hh : newF P o with
    | none => rfl
    | some tz => have := newF_late (P := P) (o := o) (by rw [hh]; simp); rw [hl] at this; cases this
  unfold stepD at h
  rw [hn, hl] at h
  dsimp only at h
  split at h
  · rename_i hwt
    unfold pLateAt at h
    cases hg : st.mem.get b with
    | some _ => rw [hg] at h; cases h
    | none =>
      rw [hg] at h
      cases hf : fillS (evP fr x.2.2.2) (repS x.2.1 x.2.2.1) with
      | none => rw [hf] at h; cases h
      | some s =>
        rw [hf] at h
        dsimp only at h
        rw [Segs.force_eq] at h; cases h
        exact .inr ⟨hwt, s, rfl, rfl, rfl, rfl⟩
  · rename_i hwt; cases h; exact .inl ⟨hwt, rfl, rfl⟩
  · cases h
theorem stepC_of_stepD {ops : Array Oper} {ab : Option Bp} {o : Oper} (hn : newF P o = none) (hl : lateF P o = none) (h : stepD P call ops ab o fr st = .ok v st') : ab = none ∧ stepC P call ops o fr st = .ok v st' := by
  unfold stepD at h
  rw [hn] at h
  cases ab with
  | none => exact ⟨rfl, h⟩
  | some b => dsimp only at h; rw [hl] at h; cases h

theorem wantedC_congr {ops : Array Oper} {o : Oper} {fr' : Fr} (h : ∀ g b d, o.guard = some (g, b) → (ops[g]?).bind (·.dst) = some d → fget fr (Bp.enc d) = fget fr' (Bp.enc d)) : wantedC ops fr o = wantedC ops fr' o := by
  rw [wantedC_eq, wantedC_eq]
  cases hg : o.guard with
  | none => rfl
  | some gb =>
    obtain ⟨g, b⟩ := gb
    dsimp only
    cases hd : (ops[g]?).bind (·.dst) with
    | none => rfl
    | some d => dsimp only; rw [h g b d hg hd]
end

/- blocks laid ahead -/
noncomputable def preA {β : Type} (P : Program) (l : List Oper) : St → (List (Option Bp) → St → β) → β :=
  List.rec (motive := fun _ => St → (List (Option Bp) → St → β) → β) (fun st k => k [] st)
    (fun o _ ih st k => Option.rec (Bool.rec (motive := fun _ => β) (ih st fun as st => k (none :: as) st) (forceB st.next.succ fun nx => ih ⟨st.mem, nx⟩ fun as st2 => k (some st.next :: as) st2) (isB P o))
      (fun tz => forceB st.next.succ fun nx => forceS ⟨st.mem.put st.next (some (.cells tz.2 tz.1 false)), nx⟩ fun st1 => ih st1 fun as st2 => k (some st.next :: as) st2) (newF P o)) l
structure PreOK (P : Program) (l : List Oper) (st : St) (as : List (Option Bp)) (st1 : St) : Prop where
  len : as.length = l.length
  next : st.next.dec ≤ st1.next.dec
  range : ∀ (i : Nat) (b : Bp), as[i]? = some (some b) → st.next.dec ≤ b.dec ∧ b.dec < st1.next.dec
  uniq : ∀ (i j : Nat) (b : Bp), as[i]? = some (some b) → as[j]? = some (some b) → i = j
  after : ∀ ρ w, WR ρ st w → After ρ st w ρ st1 w
  olds : ∀ (i : Nat) (o : Oper), l[i]? = some o → newF P o = none → isB P o = false → as[i]? = some none
  news : ∀ (i : Nat) (o : Oper), l[i]? = some o → newF P o ≠ none ∨ isB P o = true → ∃ b, as[i]? = some (some b)
theorem After.pend {ρ : Ren} {st : St} {w : World} (h : WR ρ st w) (blk : Blk) : After ρ st w ρ (st.new blk) w := by
  have hn : ρ st.next = none := by
    cases hh : ρ st.next with
    | none => rfl
    | some x => have := h.fresh _ x hh; omega
  have hold : ∀ b blk' x, (st.new blk).mem.get b = some blk' → ρ b = some x → st.mem.get b = some blk' := fun b blk' x h1 h2 => by
    have hb : b ≠ st.next := fun e => by rw [e, hn] at h2; cases h2
    simpa [St.new, PT.get_put_ne _ _ _ _ hb] using h1
  refine ⟨⟨fun b blk' r sz h1 h2 => h.at' b blk' r sz (hold b blk' _ h1 h2) h2, fun b b' k k' r s s' h1 h2 h3 h4 => h.inj b b' k k' r s s' (hold b k _ h1 h3) (hold b' k' _ h2 h4) h3 h4, fun b x hx => ?_, h.glob.sub fun b blk' r sz h1 h2 => ⟨blk', hold b blk' _ h1 h2⟩⟩, fun _ _ h => h, fun _ _ h => h, ?_,
    fun b blk' r sz h1 h2 => .inl ⟨b, blk', sz, hold b blk' _ h1 h2, h2⟩, fun _ _ _ => rfl, Nat.le_refl _, rfl, rfl⟩
  · show b.dec < st.next.succ.dec
    rw [Bp.dec_succ]; have := h.fresh b x hx; omega
  · show st.next.dec ≤ st.next.succ.dec
    rw [Bp.dec_succ]; omega
theorem After.skip {ρ : Ren} {st : St} {w : World} (h : WR ρ st w) : After ρ st w ρ ⟨st.mem, st.next.succ⟩ w :=
  ⟨⟨h.at', h.inj, fun b x hx => by show b.dec < st.next.succ.dec; rw [Bp.dec_succ]; have := h.fresh b x hx; omega, h.glob.sub fun b blk' r sz h1 h2 => ⟨blk', h1⟩⟩, fun _ _ h => h, fun _ _ h => h, by show st.next.dec ≤ st.next.succ.dec; rw [Bp.dec_succ]; omega,
    fun b blk' r sz h1 h2 => .inl ⟨b, blk', sz, h1, h2⟩, fun _ _ _ => rfl, Nat.le_refl _, rfl, rfl⟩
theorem PreOK.cons {P : Program} {l : List Oper} {st st2 : St} {as : List (Option Bp)} {o : Oper} (hg : newF P o ≠ none ∨ isB P o = true) {mem : PT Blk} (h1 : PreOK P l ⟨mem, st.next.succ⟩ as st2) (ha : ∀ ρ w, WR ρ st w → After ρ st w ρ ⟨mem, st.next.succ⟩ w) : PreOK P (o :: l) st (some st.next :: as) st2 := by
  have hnx : (st.next.succ).dec = st.next.dec + 1 := Bp.dec_succ _
  have hr : ∀ (i : Nat) (b : Bp), as[i]? = some (some b) → st.next.dec + 1 ≤ b.dec ∧ b.dec < st2.next.dec := fun i b h => by
    have := h1.range i b h
    have e : (St.mk mem st.next.succ).next.dec = st.next.dec + 1 := hnx
    omega
  have hx : st.next.dec + 1 ≤ st2.next.dec := by have := h1.next; have e : (St.mk mem st.next.succ).next.dec = st.next.dec + 1 := hnx; omega
  refine ⟨by simp [h1.len], by omega, fun i b h => ?_, fun i j b h h' => ?_, fun ρ w hw => (ha ρ w hw).trans (h1.after ρ w (ha ρ w hw).wr), fun i o' h hh hb => ?_, fun i o' h hh => ?_⟩
  · cases i with
    | zero => simp at h; subst h; omega
    | succ i => have := hr i b (by simpa using h); omega
  · cases i with
    | zero =>
      cases j with
      | zero => rfl
      | succ j => simp at h; subst h; have := hr j _ (by simpa using h'); omega
    | succ i => cases j with
      | zero => simp at h'; subst h'; have := hr i _ (by simpa using h); omega
      | succ j => rw [h1.uniq i j b (by simpa using h) (by simpa using h')]
  · cases i with
    | zero => simp at h; subst h; rcases hg with hg | hg; exact absurd hh hg; rw [hb] at hg; cases hg
    | succ i => exact h1.olds i o' (by simpa using h) hh hb
  · cases i with
    | zero => exact ⟨_, rfl⟩
    | succ i => exact h1.news i o' (by simpa using h) hh
theorem preA_ok {P : Program} : ∀ (l : List Oper) (st : St), ∃ as st1, PreOK P l st as st1 ∧ ∀ (β : Type) (k : List (Option Bp) → St → β), preA P l st k = k as st1 := by
  intro l
  induction l with
  | nil => intro st; exact ⟨[], st, ⟨rfl, Nat.le_refl _, fun i b h => by simp at h, fun i j b h => by simp at h, fun ρ w h => After.refl h, fun i o h => by simp at h, fun i o h => by simp at h⟩, fun β k => rfl⟩
  | cons o l ih =>
    intro st
    have e : ∀ (β : Type) (k : List (Option Bp) → St → β), preA P (o :: l) st k = Option.rec (Bool.rec (motive := fun _ => β) (preA P l st fun as st => k (none :: as) st) (forceB st.next.succ fun nx => preA P l ⟨st.mem, nx⟩ fun as st2 => k (some st.next :: as) st2) (isB P o))
      (fun tz => forceB st.next.succ fun nx => forceS ⟨st.mem.put st.next (some (.cells tz.2 tz.1 false)), nx⟩ fun st1 => preA P l st1 fun as st2 => k (some st.next :: as) st2) (newF P o) := fun β k => rfl
    cases hn : newF P o with
    | none =>
      cases hb : isB P o with
      | false =>
        obtain ⟨as, st1, h1, h2⟩ := ih st
        refine ⟨none :: as, st1, ⟨by simp [h1.len], h1.next, fun i b h => ?_, fun i j b h h' => ?_, h1.after, fun i o h hh hbb => by cases i with | zero => rfl | succ i => exact h1.olds i o (by simpa using h) hh hbb, fun i o h hh => by cases i with | zero => (simp at h; subst h; rcases hh with hh | hh; exact absurd hn hh; rw [hb] at hh; cases hh) | succ i => exact h1.news i o (by simpa using h) hh⟩, fun β k => by rw [e, hn, hb]; exact h2 _ _⟩
        · cases i with
          | zero => simp at h
          | succ i => exact h1.range i b (by simpa using h)
        · cases i with
          | zero => simp at h
          | succ i => cases j with
            | zero => simp at h'
            | succ j => rw [h1.uniq i j b (by simpa using h) (by simpa using h')]
      | true =>
        obtain ⟨as, st2, h1, h2⟩ := ih ⟨st.mem, st.next.succ⟩
        exact ⟨some st.next :: as, st2, h1.cons (.inr hb) fun ρ w hw => After.skip hw, fun β k => by rw [e, hn, hb]; show forceB st.next.succ _ = _; rw [forceB_eq]; exact h2 _ _⟩
    | some tz =>
      obtain ⟨as, st2, h1, h2⟩ := ih (st.new (.cells tz.2 tz.1 false))
      exact ⟨some st.next :: as, st2, PreOK.cons (mem := st.mem.put st.next (some (.cells tz.2 tz.1 false))) (.inl (by rw [hn]; simp)) h1 fun ρ w hw => After.pend hw (.cells tz.2 tz.1 false), fun β k => by
        rw [e, hn]; show forceB st.next.succ _ = _; rw [forceB_eq]; rw [forceS_eq]; exact h2 _ _⟩
end Sim
