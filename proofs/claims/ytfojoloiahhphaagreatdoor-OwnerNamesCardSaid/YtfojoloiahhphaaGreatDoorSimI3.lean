import Derived.Test.YtfojoloiahhphaaGreatDoorSimI3a
import Derived.Maps.RangeRun
import Derived.Laws.IdiomRangeMap
/- Sim, part 42b: maps.Copy at keys that are ints: whatever the order in which the entries come. -/
namespace Sim
open Go

/- what is merged -/
theorem hasA_iff {a : Int} {es : List Ent} : hasA a es = true ↔ ∃ e ∈ es, e.1 = .int .i64 a := by
  unfold hasA
  rw [anyL_iff]
  exact ⟨fun ⟨e, h1, h2⟩ => ⟨e, h1, isA_iff.1 h2⟩, fun ⟨e, h1, h2⟩ => ⟨e, h1, isA_iff.2 h2⟩⟩
theorem mergeL_cons (e : Ent) (d s : List Ent) : mergeL (e :: d) s = bsel (hasA (keyZ e.1) s) (mergeL d s) (e :: mergeL d s) := rfl
def IntKeys (es : List Ent) : Prop := ∀ e ∈ es, ∃ n : Int, e.1 = .int .i64 n
theorem mergeL_mem {s : List Ent} : ∀ {d : List Ent}, IntKeys d → ∀ x, x ∈ mergeL d s ↔ x ∈ s ∨ (x ∈ d ∧ ∀ e ∈ s, e.1 ≠ x.1) := by
  intro d
  induction d with
  | nil => intro _ x; show x ∈ s ↔ _; simp
  | cons e d ih =>
    intro hi x
    obtain ⟨n, hn⟩ := hi e (List.mem_cons_self ..)
    have hi' : IntKeys d := fun y hy => hi y (List.mem_cons_of_mem _ hy)
    rw [mergeL_cons, bsel_eq]
    have hz : keyZ e.1 = n := by rw [hn]; rfl
    by_cases hh : hasA (keyZ e.1) s = true
    · rw [if_pos hh, ih hi' x]
      rw [hz] at hh
      obtain ⟨f, hf, hf1⟩ := hasA_iff.1 hh
      constructor
      · rintro (h | ⟨h1, h2⟩)
        · exact .inl h
        · exact .inr ⟨List.mem_cons_of_mem _ h1, h2⟩
      · rintro (h | ⟨h1, h2⟩)
        · exact .inl h
        · rcases List.mem_cons.1 h1 with rfl | h1
          · exact absurd (by rw [hf1, hn]) (h2 f hf)
          · exact .inr ⟨h1, h2⟩
    · rw [if_neg hh, List.mem_cons, ih hi' x]
      rw [hz] at hh
      constructor
      · rintro (rfl | h | ⟨h1, h2⟩)
        · exact .inr ⟨List.mem_cons_self .., fun f hf he => hh (hasA_iff.2 ⟨f, hf, by rw [he, hn]⟩)⟩
        · exact .inl h
        · exact .inr ⟨List.mem_cons_of_mem _ h1, h2⟩
      · rintro (h | ⟨h1, h2⟩)
        · exact .inr (.inl h)
        · rcases List.mem_cons.1 h1 with rfl | h1
          · exact .inl rfl
          · exact .inr (.inr ⟨h1, h2⟩)
theorem mergeL_keys {d s : List Ent} (hd : IntKeys d) (hs : IntKeys s) : IntKeys (mergeL d s) := fun x hx => by
  rcases (mergeL_mem hd x).1 hx with h | ⟨h, _⟩
  · exact hs x h
  · exact hd x h
theorem mergeL_nodup {s : List Ent} (hs : (s.map (·.1)).Nodup) : ∀ {d : List Ent}, IntKeys d → (d.map (·.1)).Nodup → ((mergeL d s).map (·.1)).Nodup := by
  intro d
  induction d with
  | nil => intro _ _; exact hs
  | cons e d ih =>
    intro hi hn
    rw [List.map_cons, List.nodup_cons] at hn
    have hi' : IntKeys d := fun y hy => hi y (List.mem_cons_of_mem _ hy)
    rw [mergeL_cons, bsel_eq]
    split
    · exact ih hi' hn.2
    · rename_i hh
      obtain ⟨n, hn1⟩ := hi e (List.mem_cons_self ..)
      have hz : keyZ e.1 = n := by rw [hn1]; rfl
      rw [hz] at hh
      rw [List.map_cons, List.nodup_cons]
      refine ⟨fun hm => ?_, ih hi' hn.2⟩
      obtain ⟨x, hx, hxe⟩ := List.mem_map.1 hm
      rcases (mergeL_mem hi' x).1 hx with h | ⟨h, _⟩
      · exact hh (hasA_iff.2 ⟨x, h, by rw [hxe, hn1]⟩)
      · exact hn.1 (List.mem_map.2 ⟨x, h, hxe⟩)

/-- The text of maps.Copy. -/
def cpE (n : Nat) (g : Ground) : Go.Edge := { on := n, ground := g }
structure CopyFn (P : Program) (f : Nat) (n : Nat) : Prop where
  out : ∃ (fn : Func) (t kt et : TypeId) (d : Nat) (R0 : Array Oper) (R1 R2 R3 : Array Oper) (o0 o1 o2 o3 o4 o5 o6 o7 o8 o9 p0 p1 p2 p3 : Oper), P.funcs[f]? = some fn ∧ Sim.callable P f = true ∧ fn.results = #[] ∧ 16 ≤ fn.ntmps ∧
    fn.body = some (Code.seq (.region 0 R0 false) (.block 0 (.loop (.seq (.region 1 R1 false) (.seq (.cond (.tmp 9) .skip (.exit 0)) (.block 1 (.seq (.region 2 R2 false) (.region 3 R3 false)))))))) ∧
    R0.toList = [o0, o1] ∧ R1.toList = [o2, o3] ∧ R2.toList = [o4, o5, o6, o7, o8, o9] ∧ R3.toList = [p0, p1, p2, p3] ∧
    (∀ o ∈ [o0, o1, o2, o3, o4, o5, o6, o7, o8, o9, p0, p1, p2, p3], o.guard = none) ∧
    (o0.op = .move (.tmp 1) ∧ o0.dst = some 6) ∧ (o1.op = .range t (.tmp 6) ∧ o1.dst = some 7) ∧ (o2.op = .next (.tmp 7) false ∧ o2.dst = some 8) ∧ (o3.op = .extract (.tmp 8) 0 ∧ o3.dst = some 9) ∧
    (o4.op = .entry (.tmp 7) ∧ o4.dst = some 10) ∧ (o5.op = .extract (.tmp 10) 0 ∧ o5.dst = some 11) ∧ (o6.op = .extract (.tmp 10) 1 ∧ o6.dst = some 12) ∧ (o7.op = .alloc et ∧ o7.dst = some 5) ∧ (o8.op = .assign (.tmp 11) ∧ o8.dst = some 4) ∧
    (o9.op = .store et (.tmp 5) (.tmp 12) ∧ o9.dst = none) ∧ (p0.op = .move (.tmp 0) ∧ p0.dst = some 13) ∧ (p1.op = .move (.tmp 4) ∧ p1.dst = some 14) ∧ (p2.op = .load et (.tmp 5) ∧ p2.dst = some 15) ∧ (p3.op = .mapUpdate t (.tmp 13) (.tmp 14) (.tmp 15) ∧ p3.dst = none) ∧
    P.underlying t = some (.map kt et) ∧ eqDesc P d kt = some .int ∧ d < 10000 ∧ deepKey 40 .int = true ∧ (∃ i z, P.info? et = some i ∧ i.zero = some z ∧ i.size = n ∧ z.cells.size = n) ∧ (∀ w, (isAgg et).run P w = .ok true w)

/- acts -/
theorem eval_put_same {a : Act} {d : Nat} {v : Value} (h : d < a.tmps.size) : (a.put (some d) v).eval (.tmp d) = v := by simp [Act.eval, Act.put, h]
theorem eval_put_ne {a : Act} {d k : Nat} {v : Value} (h : d ≠ k) : (a.put (some d) v).eval (.tmp k) = a.eval (.tmp k) := by
  simp only [Act.eval, Act.put]
  simp [Array.getElem?_setIfInBounds_ne h]

section
variable {P : Program} {ρ : Ren} {st : St} {w : World}
theorem stripE_map (es : List Ent) : stripE es = es.map fun e => (e.1, e.2.1, 0) := by
  induction es with
  | nil => rfl
  | cons e es ih => exact congrArg (List.cons _) ih
/-- A map of known keys, as a loose one. -/
theorem loose_of {b : Bp} {es : List Ent} {r sz : Nat} (hw : WR ρ st w) (he : entsA (st.mem.get b) = some es) (hk : keysOK es = true) (hr : ρ b = some (r, sz)) :
    ∃ (clock : Nat) (es' : List MapEntry) (l : List Ent), w.heap[r]? = some (.map es'.toArray clock) ∧ l.Perm es ∧ (∀ (i : Nat) (e : Ent) (e' : MapEntry), l[i]? = some e → es'[i]? = some e' → VR ρ e.1 e'.key ∧ VR ρ e.2.1 e'.val) ∧
      Go.MapKept.Stamped es'.toArray clock ∧ IntKeys es ∧ (es.map (·.1)).Nodup ∧ l.length = es'.length := by
  have hkk : IntKeys es ∧ (es.map (·.1)).Nodup := by
    unfold keysOK at hk
    split at hk
    · rename_i l hl
      obtain ⟨k1, k2⟩ := keysI_some hl
      have hnd : l.Nodup := (isortI_perm l).nodup_iff.1 ((incrI_pair _ hk).imp (S := fun a b => a ≠ b) (fun hab => by omega))
      have hmap : es.map (·.1) = l.map fun a => CV.int .i64 a := by
        apply List.ext_getElem?
        intro i
        rw [List.getElem?_map, List.getElem?_map]
        rcases Nat.lt_or_ge i es.length with hlt | hge
        · obtain ⟨a, g1, g2, _⟩ := k2 i es[i] (List.getElem?_eq_getElem hlt)
          rw [List.getElem?_eq_getElem hlt, g1]; simp [g2]
        · have hge2 : l.length ≤ i := by omega
          rw [List.getElem?_eq_none hge, List.getElem?_eq_none hge2]; rfl
      refine ⟨fun e he => ?_, ?_⟩
      · obtain ⟨i, hi, rfl⟩ := List.getElem_of_mem he
        obtain ⟨a, _, g2, _⟩ := k2 i es[i] (List.getElem?_eq_getElem hi)
        exact ⟨a, g2⟩
      · rw [hmap]
        unfold List.Nodup at hnd ⊢
        rw [List.pairwise_map]
        exact hnd.imp fun hab e => hab (by cases e; rfl)
    · cases hk
  unfold entsA at he
  split at he
  · rename_i es0 clock hm
    rw [bsel_eq] at he
    split at he
    · rename_i hb
      cases he
      obtain ⟨es', h1, h2, h3⟩ := hw.map hm hr
      obtain ⟨b1, b2⟩ := bornOK_pair hb
      have hbm : es'.map (·.born) = es.map (·.2.2) := by
        apply List.ext_getElem?
        intro i
        rw [List.getElem?_map, List.getElem?_map]
        rcases Nat.lt_or_ge i es'.length with hlt | hge
        · rw [List.getElem?_eq_getElem hlt, List.getElem?_eq_getElem (by omega)]
          have := (h3 i es[i] es'[i] (List.getElem?_eq_getElem (by omega)) (List.getElem?_eq_getElem hlt)).2.2
          simp [this]
        · have hge2 : es.length ≤ i := by omega
          rw [List.getElem?_eq_none hge, List.getElem?_eq_none hge2]; rfl
      refine ⟨clock, es', es, h1, List.Perm.refl _, fun i e e' g1 g2 => ⟨(h3 i e e' g1 g2).1, (h3 i e e' g1 g2).2.1⟩, ⟨fun x hx => ?_, ?_, ?_⟩, hkk.1, hkk.2, h2⟩
      · have : x.born ∈ es'.map (·.born) := List.mem_map_of_mem (by simpa using hx)
        rw [hbm, List.mem_map] at this
        obtain ⟨e, he, he2⟩ := this
        rw [← he2]; exact b1 e he
      · show ((es'.toArray.toList).map (·.born)).Nodup
        rw [List.toList_toArray, hbm]; exact b2
      · show ((es'.toArray.toList).map (·.key)).Nodup
        rw [List.toList_toArray]
        have hn := hkk.2
        unfold List.Nodup at hn ⊢
        rw [List.pairwise_map] at hn ⊢
        rw [List.pairwise_iff_getElem] at hn ⊢
        intro i j hi hj hij e
        refine hn i j (by omega) (by omega) hij ?_
        obtain ⟨a, ha⟩ := hkk.1 es[i] (List.getElem_mem (by omega))
        obtain ⟨b, hb⟩ := hkk.1 es[j] (List.getElem_mem (by omega))
        have v1 := (h3 i es[i] es'[i] (List.getElem?_eq_getElem (by omega)) (List.getElem?_eq_getElem hi)).1
        have v2 := (h3 j es[j] es'[j] (List.getElem?_eq_getElem (by omega)) (List.getElem?_eq_getElem hj)).1
        rw [ha] at v1; rw [hb] at v2
        have w1 := intKey v1
        have w2 := intKey v2
        rw [w1, w2] at e
        cases e
        rw [ha, hb]
    · cases he
  · rename_i es0 hm
    cases he
    obtain ⟨l, clock, es', h1, h2, h3, h4, h5, h6, h7⟩ := hw.lmap hm hr
    exact ⟨clock, es', l, h1, h2, h7, h5, h3, h4, h6⟩
  · cases he
theorem strip_keys {es : List Ent} (h : IntKeys es) : IntKeys (stripE es) := by
  rw [stripE_map]
  intro e he
  obtain ⟨x, hx, rfl⟩ := List.mem_map.1 he
  exact h x hx
theorem strip_nodup {es : List Ent} (h : (es.map (·.1)).Nodup) : ((stripE es).map (·.1)).Nodup := by
  rw [stripE_map, List.map_map]; exact h
theorem After.loosen {b : Bp} {es : List Ent} {r sz : Nat} (hw : WR ρ st w) (he : entsA (st.mem.get b) = some es) (hk : keysOK es = true) (hr : ρ b = some (r, sz)) : After ρ st w ρ (st.set b (.lmap (stripE es))) w := by
  obtain ⟨clock, es', l, h1, h2, h3, h4, h5, h6, h7⟩ := loose_of hw he hk hr
  obtain ⟨blk, hblk⟩ : ∃ blk, st.mem.get b = some blk := by
    cases hb : st.mem.get b with
    | some x => exact ⟨x, rfl⟩
    | none => rw [hb] at he; cases he
  refine After.set hw hblk hr h1 (.lmap (stripE es) (stripE l) clock es' (by rw [stripE_map, stripE_map]; exact h2.map _) (strip_keys h5) (strip_nodup h6) h4 (by rw [stripE_map]; simp [h7]) (fun i e e' g1 g2 => ?_) sz) (fun _ _ => rfl) rfl rfl rfl
  rw [stripE_map, List.getElem?_map] at g1
  cases hl : l[i]? with
  | none => rw [hl] at g1; simp at g1
  | some x => rw [hl] at g1; simp at g1; subst g1; exact h3 i x e' hl g2
/-- The world goes on where nothing is known. -/
theorem After.unk {ρ0 : Ren} {st0 M : St} {w0 w' : World} (h : After ρ0 st0 w0 ρ M w) (hg : Glob ρ0 st0 w0) (it : Nat) (hi : w0.heap.size ≤ it) (hu : ∀ b blk sz, M.mem.get b = some blk → ρ b ≠ some (it, sz)) (hs : w.heap.size ≤ w'.heap.size) (hk : ∀ r, r < w.heap.size → r ≠ it → w'.heap[r]? = w.heap[r]?) (hos : w'.os = w.os) (hout : w'.output = w.output) : After ρ0 st0 w0 ρ M w' where
  wr := ⟨fun b blk r sz h1 h2 => by
      obtain ⟨o, e2, e3⟩ := h.wr.at' b blk r sz h1 h2
      exact ⟨o, by rw [hk r (Array.getElem?_eq_some_iff.1 e2).1 (fun e => hu b blk sz h1 (by rw [h2, e]))]; exact e2, e3⟩, h.wr.inj, h.wr.fresh, hg.keep h.origin (fun r hr hn => by
    rw [hk r (Nat.lt_of_lt_of_le hr h.size) (by omega)]; exact h.kept r hr hn)⟩
  ext := h.ext
  dom := h.dom
  next := h.next
  origin := h.origin
  kept := fun r hr hn => by
    rw [hk r (Nat.lt_of_lt_of_le hr h.size) (by omega)]; exact h.kept r hr hn
  size := Nat.le_trans h.size hs
  os := hos.trans h.os
  output := hout.trans h.output
end
end Sim
