import Derived.Test.YtfojoloiahhphaaGreatDoorSimI1
import Derived.Lib.SlKeysI
import Derived.Shelf.SlIterI.Collect
/- Sim, part 41: slices.Sorted(maps.Keys(m)) at keys that are ints. -/
namespace Sim
open Go Go.Sort

/- numbers, sorted -/
noncomputable def insI1 (x : Int) (l : List Int) : List Int := List.rec (motive := fun _ => List Int) [x] (fun y r ih => bsel (zlt x y) (x :: y :: r) (y :: ih)) l
noncomputable def isortI (l : List Int) : List Int := List.rec (motive := fun _ => List Int) [] (fun x _ ih => insI1 x ih) l
theorem insI1_cons (x y : Int) (r : List Int) : insI1 x (y :: r) = bsel (zlt x y) (x :: y :: r) (y :: insI1 x r) := rfl
theorem insI1_perm (x : Int) : ∀ l : List Int, (insI1 x l).Perm (x :: l) := by
  intro l
  induction l with
  | nil => exact List.Perm.refl _
  | cons y r ih =>
    rw [insI1_cons, bsel_eq]
    split
    · exact List.Perm.refl _
    · exact (ih.cons y).trans (List.Perm.swap x y r)
theorem isortI_perm : ∀ l : List Int, (isortI l).Perm l := by
  intro l
  induction l with
  | nil => exact List.Perm.refl _
  | cons x l ih => exact (insI1_perm x (isortI l)).trans (ih.cons x)
noncomputable def incrI (l : List Int) : Bool := List.rec (motive := fun _ => Bool) true (fun x r ih => Bool.and (List.rec (motive := fun _ => Bool) true (fun y _ _ => zlt x y) r) ih) l
theorem incrI_pair : ∀ l : List Int, incrI l = true → l.Pairwise (· < ·) := by
  intro l
  induction l with
  | nil => intro _; exact List.Pairwise.nil
  | cons x r ih =>
    intro h
    have h : Bool.and (List.rec (motive := fun _ => Bool) true (fun y _ _ => zlt x y) r) (incrI r) = true := h
    rw [Bool.and_eq_true] at h
    have hr := ih h.2
    refine List.Pairwise.cons (fun y hy => ?_) hr
    cases r with
    | nil => cases hy
    | cons z r =>
      have hz : x < z := (zlt_iff x z).1 h.1
      rcases List.mem_cons.1 hy with rfl | hy
      · exact hz
      · exact Int.lt_trans hz (List.rel_of_pairwise_cons hr hy)
theorem isortI_merge {l : List Int} (h : incrI (isortI l) = true) : l.mergeSort leI = isortI l := by
  rw [← mergeSort_of_perm_i (isortI_perm l)]
  refine List.mergeSort_of_pairwise ((incrI_pair _ h).imp fun hab => ?_)
  simp only [leI, decide_eq_true_eq]; omega

/- a map's keys -/
noncomputable def keyN (v : CV) : Option Int := match v with | .int .i64 (.ofNat m) => bsel (Nat.ble m 9223372036854775807) (some (.ofNat m)) none | _ => none
noncomputable def keysI (es : List Ent) : Option (List Int) := List.rec (motive := fun _ => Option (List Int)) (some []) (fun e _ ih => Option.rec none (fun a => Option.rec none (fun l => some (a :: l)) ih) (keyN e.1)) es
noncomputable def bornOK (clock : Nat) (es : List Ent) : Bool := Bool.and (allL es fun e => Nat.ble (Nat.succ e.2.2) clock) (incrI (List.rec (motive := fun _ => List Int) [] (fun e _ ih => Int.ofNat e.2.2 :: ih) es))
theorem keyN_some {v : CV} {a : Int} (h : keyN v = some a) : v = .int .i64 a ∧ 0 ≤ a ∧ a ≤ 9223372036854775807 := by
  unfold keyN at h
  split at h
  · simp only [bsel_eq, Nat.ble_eq] at h
    split at h
    · rename_i hm
      cases h
      exact ⟨rfl, Int.natCast_nonneg _, by show ((_ : Nat) : Int) ≤ _; omega⟩
    · cases h
  · cases h
theorem keysI_some : ∀ {es : List Ent} {l : List Int}, keysI es = some l → l.length = es.length ∧ ∀ (i : Nat) (e : Ent), es[i]? = some e → ∃ a, l[i]? = some a ∧ e.1 = .int .i64 a ∧ 0 ≤ a ∧ a ≤ 9223372036854775807 := by
  intro es
  induction es with
  | nil => intro l h; cases h; exact ⟨rfl, fun i e h => by simp at h⟩
  | cons e es ih =>
    intro l h
    have e0 : keysI (e :: es) = Option.rec none (fun a => Option.rec none (fun l => some (a :: l)) (keysI es)) (keyN e.1) := rfl
    rw [e0] at h
    cases hk : keyN e.1 with
    | none => rw [hk] at h; cases h
    | some a =>
      rw [hk] at h
      cases hks : keysI es with
      | none => rw [hks] at h; cases h
      | some l1 =>
        rw [hks] at h; cases h
        obtain ⟨h1, h2⟩ := ih hks
        refine ⟨by simp [h1], fun i x hx => ?_⟩
        cases i with
        | zero => simp at hx; subst hx; exact ⟨a, rfl, keyN_some hk⟩
        | succ i => simpa using h2 i x (by simpa using hx)
theorem bornOK_pair {clock : Nat} {es : List Ent} (h : bornOK clock es = true) : (∀ e ∈ es, e.2.2 < clock) ∧ (es.map (·.2.2)).Nodup := by
  unfold bornOK at h
  rw [Bool.and_eq_true, allL_iff] at h
  refine ⟨fun e he => by have := h.1 e he; rw [Nat.ble_eq] at this; exact this, ?_⟩
  have e1 : (List.rec (motive := fun _ => List Int) [] (fun e _ ih => Int.ofNat e.2.2 :: ih) es : List Int) = es.map fun e => (e.2.2 : Int) := by
    induction es with
    | nil => rfl
    | cons e es ih => exact congrArg (List.cons _) (ih ⟨fun x hx => h.1 x (List.mem_cons_of_mem _ hx), by
        have := h.2
        have h2 : Bool.and _ (incrI (List.rec (motive := fun _ => List Int) [] (fun e _ ih => Int.ofNat e.2.2 :: ih) es)) = true := this
        rw [Bool.and_eq_true] at h2; exact h2.2⟩)
  have := incrI_pair _ h.2
  rw [e1] at this
  rw [List.pairwise_map] at this
  show (es.map (·.2.2)).Nodup
  unfold List.Nodup
  rw [List.pairwise_map]
  exact this.imp fun hab => by omega

/-- f is slices.Sorted at ints of 64 bits; K: what maps.Keys gives, for a map of whatever elements. -/
structure SortFn (P : Program) (f K : Nat) (t : TypeId) : Prop where
  callable : callable P f = true
  und : P.underlying t = some (.int .i64)
  out : ∀ (B b nn : Nat) (D0 : DataW Unit) (R : Value → Option (DataW Unit × List MemPlace)) (w : World), w.cell? ⟨B, 0, none⟩ = some (.map (some b)) → B < w.heap.size → w.ownsMap P t R b nn D0 → Maps.size D0 ≤ maxLen → Maps.size D0 * 8 ≤ 140737488355328 →
    Calls P f #[.func (.func K) #[] #[.pointer (some ⟨B, 0, none⟩)]] w fun e w' => ∃ (v : Value) (ss : List Int), e = .returned v ∧ ss.Perm (intKeys D0) ∧
      w'.ownsRow w.heap.size t 1 v ss.length ((ss.mergeSort leI).map encZ) ∧ (v = .slice none 0 0 ↔ ss = []) ∧ Go.RowKit.Below w.heap.size w w'

noncomputable def rowI (l : List Int) : Segs CV := List.rec (motive := fun _ => Segs CV) .nil (fun x _ ih => .one (.int .i64 x) ih) l
noncomputable def sortRes (t : TypeId) (n : Nat) (l : List Int) (st : St) : OR :=
  bsel (incrI l) (bsel (Nat.ble n 1000000000) (bsel (Nat.beq n 0) (.ok .nilslice st) (forceN n fun n => forceB st.next.succ fun nx => (rowI l).force fun s => .ok (.slice st.next 0 n n 1) ⟨st.mem.put st.next (some (.cells s t true)), nx⟩)) .bad) .bad
noncomputable def sortG (K : Nat) (t : TypeId) : FunX := fun _ args st =>
  match args with
  | [.func (.func k) .nil (.one (.ptr bb 0) .nil)] => bsel (Nat.beq k K)
      (match st.mem.get bb with
      | some (.cells (.one (.map mb) .nil) _ _) => (match st.mem.get mb with
        | some (.map es clock) => bsel (bornOK clock es) (match keysI es with | some l => sortRes t es.length (isortI l) st | none => .bad) .bad
        | some (.lmap es) => (match keysI es with | some l => sortRes t es.length (isortI l) st | none => .bad)
        | _ => .bad)
      | _ => .bad) .bad
  | _ => .bad

section
variable {P : Program} {ρ : Ren} {st st' : St} {w w' : World} {v : CV}
/-- What is new in the world and not spoken of. -/
theorem After.below (h : WR ρ st w) (hb : Go.RowKit.Below w.heap.size w w') : After ρ st w ρ st w' :=
  ⟨⟨fun b blk r sz h1 h2 => by
      obtain ⟨o, e2, e3⟩ := h.at' b blk r sz h1 h2
      exact ⟨o, by rw [hb.block r (Array.getElem?_eq_some_iff.1 e2).1]; exact e2, e3⟩, h.inj, h.fresh, h.glob.keep (fun b blk _ sz h1 h2 => .inl ⟨b, blk, sz, h1, h2⟩) (fun r hr _ => hb.block r hr)⟩, fun _ _ h => h, fun _ _ h => h, Nat.le_refl _, fun b blk _ sz h1 h2 => .inl ⟨b, blk, sz, h1, h2⟩,
    fun r hr _ => hb.block r hr, hb.size, hb.os, hb.output⟩
theorem After.later (h : WR ρ st w) (hb : Go.RowKit.Below w.heap.size w w') {g sz : Nat} {o : Obj} {blk : Blk} (hg : w.heap.size ≤ g) (ho : w'.heap[g]? = some o) (hbr : BR (ρ.set st.next (g, sz)) blk o sz) :
    After ρ st w (ρ.set st.next (g, sz)) (st.new blk) w' := by
  have hA := (After.below h hb).trans (After.pend (After.below h hb).wr blk)
  have hn : ρ st.next = none := by
    cases hh : ρ st.next with
    | none => rfl
    | some x => have := h.fresh _ x hh; omega
  have hle : ρ.le (ρ.set st.next (g, sz)) := fun q x hx => by rw [Ren.set_ne _ _ _ _ (fun e => by rw [e, hn] at hx; cases hx)]; exact hx
  have hlow : ∀ q blk r s, (st.new blk).mem.get q = some blk → ρ q = some (r, s) → st.mem.get q = some blk := fun q blk r s h1 h2 => by
    have hq : q ≠ st.next := fun e => by rw [e, hn] at h2; cases h2
    simpa [St.new, PT.get_put_ne _ _ _ _ hq] using h1
  have hold : ∀ q b2, q ≠ st.next → (st.new blk).mem.get q = some b2 → st.mem.get q = some b2 := fun q b2 hq h1 => by simpa [St.new, PT.get_put_ne _ _ _ _ hq] using h1
  have hreal : ∀ q b2 r s, st.mem.get q = some b2 → ρ q = some (r, s) → r < w.heap.size := fun q b2 r s h1 h2 => by
    obtain ⟨o, e2, _⟩ := h.at' q b2 r s h1 h2
    exact (Array.getElem?_eq_some_iff.1 e2).1
  have hor : ∀ q b2 r s, (st.new blk).mem.get q = some b2 → ρ.set st.next (g, sz) q = some (r, s) → (∃ b0 blk0 sz0, st.mem.get b0 = some blk0 ∧ ρ b0 = some (r, sz0)) ∨ w.heap.size ≤ r := fun q b2 r s h1 h2 => by
    by_cases e : q = st.next
    · subst e; rw [Ren.set_same] at h2; cases h2; exact .inr hg
    · rw [Ren.set_ne _ _ _ _ e] at h2; exact hA.origin q b2 r s h1 h2
  refine ⟨⟨fun q b2 r s h1 h2 => ?_, fun q q' b1 b2 r s s' h1 h2 h3 h4 => ?_, fun q x hx => ?_, h.glob.keep hor hA.kept⟩, hle, fun q hq hr => ?_, hA.next, hor, hA.kept, hb.size, hb.os, hb.output⟩
  · by_cases e : q = st.next
    · subst e
      simp only [St.new, PT.get_put_same, Option.some.injEq] at h1; subst h1
      rw [Ren.set_same] at h2; cases h2
      exact ⟨o, ho, hbr⟩
    · rw [Ren.set_ne _ _ _ _ e] at h2
      obtain ⟨o', e2, e3⟩ := hA.wr.at' q b2 r s h1 h2
      exact ⟨o', e2, e3.mono hle⟩
  · by_cases e : q = st.next
    · by_cases e' : q' = st.next
      · rw [e, e']
      · rw [e, Ren.set_same] at h3; cases h3
        rw [Ren.set_ne _ _ _ _ e'] at h4
        have := hreal q' b2 _ _ (hold q' b2 e' h2) h4; omega
    · by_cases e' : q' = st.next
      · rw [e', Ren.set_same] at h4; cases h4
        rw [Ren.set_ne _ _ _ _ e] at h3
        have := hreal q b1 _ _ (hold q b1 e h1) h3; omega
      · rw [Ren.set_ne _ _ _ _ e] at h3; rw [Ren.set_ne _ _ _ _ e'] at h4
        exact h.inj q q' b1 b2 r s s' (hold q b1 e h1) (hold q' b2 e' h2) h3 h4
  · by_cases e : q = st.next
    · subst e; show st.next.dec < st.next.succ.dec; rw [Bp.dec_succ]; omega
    · rw [Ren.set_ne _ _ _ _ e] at hx; exact hA.wr.fresh q x hx
  · rw [Ren.set_ne _ _ _ _ (fun e => by rw [e] at hq; omega)]; exact hr

theorem rowI_cells (l : List Int) : row (rowI l) = l.map fun x => CV.int .i64 x := by
  induction l with
  | nil => rfl
  | cons x l ih => exact congrArg (List.cons _) ih
theorem rowI_VRs (l : List Int) : VRs ρ (row (rowI l)) (l.map encZ) := by
  rw [rowI_cells]
  induction l with
  | nil => exact VRs.nil ρ
  | cons x l ih => exact VRs.cons (.int _ _) ih

theorem sortRes_sound {f K : Nat} {t : TypeId} (hf : SortFn P f K t) {es : List Ent} {l : List Int} {bb mb : Bp} {ty : TypeId} {g : Bool} (hl : keysI es = some l) (h : sortRes t es.length (isortI l) st = .ok v st')
    (hbb : st.mem.get bb = some (.cells (.one (.map mb) .nil) ty g))
    (hmap : ∀ ρ w r sz, WR ρ st w → ρ mb = some (r, sz) → ∃ (es' : List MapEntry) (clock : Nat) (pl : List Ent), w.heap[r]? = some (.map es'.toArray clock) ∧ pl.Perm es ∧ pl.length = es'.length ∧
      (∀ (i : Nat) (e : Ent) (e' : MapEntry), pl[i]? = some e → es'[i]? = some e' → VR ρ e.1 e'.key) ∧ (∀ x ∈ es', x.born < clock) ∧ (es'.map (·.born)).Nodup) :
    Sim.callable P f = true ∧ CallOK P f [.func (.func K) .nil (.one (.ptr bb 0) .nil)] st v st' := by
  refine ⟨hf.callable, ?_⟩
  intro ρ w args' hw ha
  obtain ⟨x', t', e1, hx, ha2⟩ := ha.inv
  have e3 : t' = [] := by have := ha2.len; simpa using this.symm
  subst e3
  have e4 : args' = #[x'] := by rw [← Array.toArray_toList (xs := args'), e1]
  subst e4
  unfold sortRes at h
  simp only [bsel_eq, Nat.ble_eq, Nat.beq_eq, forceN_eq, forceB_eq, Segs.force_eq] at h
  split at h
  · rename_i hinc
    split at h
    · rename_i hbig
      cases hx with
      | func _ _ _ f' c' g1 g2 g3 g4 =>
        have hf0 : f' = [] := by have : (0 : Nat) = f'.length := g1; exact List.length_eq_zero_iff.1 this.symm
        subst hf0
        obtain ⟨p', rest, rfl, hp, hrest⟩ := (VRs.mk (ρ := ρ) g2 g4).inv
        have hr0 : rest = [] := List.length_eq_zero_iff.1 hrest.len.symm
        subst hr0
        cases hp with
        | ptr _ _ B zB hB =>
          obtain ⟨c, lo, hi, a1, a2, a3, a4, a5⟩ := hw.row hbb hB
          obtain ⟨m', hm1, hm2⟩ := a4.get (i := 0) (v := .map mb) rfl
          cases hm2 with
          | map _ r sz hr =>
            obtain ⟨es', clock, pl, b1, b2, b3, b4, b5, b6⟩ := hmap ρ w r sz hw hr
            have hcell : w.cell? ⟨B, 0, none⟩ = some (.map (some r)) := by
              have : c.toList[0]? = some (.map (some r)) := by
                rw [List.getElem?_take] at hm1
                split at hm1
                · exact hm1
                · cases hm1
              simp only [World.cell?, a1]; simpa using this
            have hBl : B < w.heap.size := (Array.getElem?_eq_some_iff.1 a1).1
            obtain ⟨kl1, kl2⟩ := keysI_some hl
            -- each key is an int
            have hkey : ∀ x ∈ es', ∃ a : Int, a ∈ l ∧ x.key = .int .i64 a ∧ 0 ≤ a ∧ a ≤ 9223372036854775807 := by
              intro x hx
              obtain ⟨i, hi', rfl⟩ := List.getElem_of_mem hx
              have hlt : i < pl.length := by omega
              have hv := b4 i pl[i] _ (List.getElem?_eq_getElem hlt) (List.getElem?_eq_getElem hi')
              have hmem := b2.mem_iff.1 (List.getElem_mem hlt)
              obtain ⟨j, hj, hje⟩ := List.getElem_of_mem hmem
              obtain ⟨a, k1, k2, k3, k4⟩ := kl2 j es[j] (List.getElem?_eq_getElem hj)
              rw [← hje, k2] at hv
              exact ⟨a, List.mem_of_getElem? k1, intKey hv, k3, k4⟩
            -- the keys, as numbers
            have hnums : (es'.map fun x => (match x.key with | .int _ a => a | _ => 0)).Perm l := by
              have h1 : es'.map (fun x => (match x.key with | .int _ a => a | _ => 0)) = pl.map fun e => (match e.1 with | .int _ a => a | _ => 0) := by
                apply List.ext_getElem?
                intro i
                rw [List.getElem?_map, List.getElem?_map]
                rcases Nat.lt_or_ge i es'.length with hlt | hge
                · have hlt2 : i < pl.length := by omega
                  rw [List.getElem?_eq_getElem hlt, List.getElem?_eq_getElem hlt2]
                  have hv := b4 i pl[i] es'[i] (List.getElem?_eq_getElem hlt2) (List.getElem?_eq_getElem hlt)
                  obtain ⟨j, hj, hje⟩ := List.getElem_of_mem (b2.mem_iff.1 (List.getElem_mem hlt2))
                  obtain ⟨a, k1, k2, _⟩ := kl2 j es[j] (List.getElem?_eq_getElem hj)
                  rw [← hje, k2] at hv
                  have hk := intKey hv
                  have hpe : pl[i].1 = .int .i64 a := by rw [← hje, k2]
                  simp [hk, hpe]
                · have hge2 : pl.length ≤ i := by omega
                  rw [List.getElem?_eq_none hge, List.getElem?_eq_none hge2]; rfl
              have h2 : es.map (fun e => (match e.1 with | .int _ a => a | _ => 0)) = l := by
                apply List.ext_getElem?
                intro i
                rw [List.getElem?_map]
                rcases Nat.lt_or_ge i es.length with hlt | hge
                · obtain ⟨a, k1, k2, _⟩ := kl2 i es[i] (List.getElem?_eq_getElem hlt)
                  rw [List.getElem?_eq_getElem hlt, k1]; simp [k2]
                · have hge2 : l.length ≤ i := by omega
                  rw [List.getElem?_eq_none hge, List.getElem?_eq_none hge2]; rfl
              rw [h1, ← h2]
              exact b2.map _
            have hlnd : l.Nodup := by
              have := (incrI_pair _ hinc).imp (S := fun a b => a ≠ b) (fun hab => by omega)
              exact (isortI_perm l).nodup_iff.1 this
            have hknd : (es'.map (·.key)).Nodup := by
              have hn := hnums.nodup_iff.2 hlnd
              unfold List.Nodup at hn ⊢
              rw [List.pairwise_map] at hn ⊢
              exact hn.imp fun hab e => hab (by rw [e])
            have hst : Go.MapKept.Stamped es'.toArray clock := ⟨fun x hx => b5 x (by simpa using hx), by simpa using b6, by simpa using hknd⟩
            have hlen : es'.length ≤ 1000000000 := by
              have e5 : es'.length = es.length := by rw [← b3, b2.length_eq]
              have hb : es.length ≤ 1000000000 := hbig
              omega
            have hrd : ∀ x ∈ es', ∃ y, Go.WideElems.rd P t (fun _ => some ((.nil : DataW Unit), ([] : List MemPlace))) x = some y := by
              intro x hx
              obtain ⟨a, _, ha1, ha2, ha3⟩ := hkey x hx
              refine ⟨(.int .i64 a, .nil), ?_⟩
              have hko : Go.keyOf P t x.key = some (.int .i64 a) := by
                unfold Go.keyOf mapKey
                rw [hf.und, ha1]
                have m1 : IntKind.i64.min = -9223372036854775808 := by decide
                have m2 : IntKind.i64.max = 9223372036854775807 := by decide
                simp [Lit.wf, m1, m2]
                omega
              simp [Go.WideElems.rd, hko]
            have hown : w.ownsMap P t (fun _ => some ((.nil : DataW Unit), ([] : List MemPlace))) r es'.length (.map ((es'.toArray.toList.map (Go.WideElems.rg P t fun _ => some ((.nil : DataW Unit), ([] : List MemPlace)))).foldr DataW.insert [])) :=
              ⟨es'.toArray, clock, b1, ⟨by show es'.toArray.size ≤ maxLen; simp only [List.size_toArray, maxLen]; omega, hst, fun x hx => hrd x (by simpa using hx)⟩, by simp, rfl⟩
            have hsize : Maps.size (H := Unit) (.map ((es'.toArray.toList.map (Go.WideElems.rg P t fun _ => some ((.nil : DataW Unit), ([] : List MemPlace)))).foldr DataW.insert [])) = es'.length := by
              show (List.foldr (DataW.insert (H := Unit)) _ _).length = _
              rw [Go.length_sorted]; simp
            have hkeys : (intKeys (H := Unit) (.map ((es'.toArray.toList.map (Go.WideElems.rg P t fun _ => some ((.nil : DataW Unit), ([] : List MemPlace)))).foldr DataW.insert []))).Perm l := by
              refine (List.Perm.map _ (Go.WideShapes.sorted_perm _)).trans ?_
              rw [List.map_map]
              have : es'.toArray.toList.map ((fun p => intOf p.1) ∘ Go.WideElems.rg P t fun _ => some ((.nil : DataW Unit), ([] : List MemPlace))) = es'.map fun x => (match x.key with | .int _ a => a | _ => 0) := by
                apply List.map_congr_left
                intro x hx
                obtain ⟨a, _, ha1, ha2, ha3⟩ := hkey x hx
                have hko : Go.keyOf P t x.key = some (.int .i64 a) := by
                  unfold Go.keyOf mapKey
                  rw [hf.und, ha1]
                  have m1 : IntKind.i64.min = -9223372036854775808 := by decide
                  have m2 : IntKind.i64.max = 9223372036854775807 := by decide
                  simp [Lit.wf, m1, m2]
                  omega
                rw [ha1] at hko
                simp [Go.WideElems.rg, Go.WideElems.rd, hko, ha1, intOf]
              rw [this]; exact hnums
            refine (hf.out B r es'.length _ _ w hcell hBl hown (by rw [hsize]; simp only [maxLen]; omega) (by rw [hsize]; omega)).mono ?_
            rintro e w' ⟨v', ss, rfl, hss, hrow, hnil, hbl⟩
            have hperm : ss.Perm l := hss.trans hkeys
            have hms : ss.mergeSort leI = isortI l := by rw [mergeSort_of_perm_i hperm]; exact isortI_merge hinc
            have hsl : ss.length = es.length := by rw [hperm.length_eq, kl1]
            split at h
            · rename_i h0
              cases h
              have hs0 : ss = [] := List.length_eq_zero_iff.1 (by rw [hsl]; exact h0)
              have := hnil.2 hs0
              subst this
              exact ⟨_, ρ, rfl, .nilslice, After.below hw hbl⟩
            · rename_i h0
              cases h
              rcases hrow.2 with ⟨q1, q2⟩ | ⟨gg, cap, cur, q1, q2, q3, q4, q5, q6, q7⟩
              · exact absurd (by rw [← hsl]; exact q2) h0
              · rw [hms] at q7
                have hiv : VRs (ρ.set st.next (gg, cur.size)) (row (rowI (isortI l))) (cur.toList.take (rowI (isortI l)).size) := by
                  have hz : (rowI (isortI l)).size = ss.length * 1 := by
                    rw [← row_length, rowI_cells, List.length_map, (isortI_perm l).length_eq, kl1, hsl]; omega
                  rw [hz, q7]; exact rowI_VRs _
                have hsz : (rowI (isortI l)).size = ss.length := by
                  rw [← row_length, rowI_cells, List.length_map, (isortI_perm l).length_eq, kl1, hsl]
                have hbr := BR.cells (ρ := ρ.set st.next (gg, cur.size)) (rowI (isortI l)) t true cur 0 0 (by rw [hsz, q6]; omega) hiv (by omega) (fun hh => by cases hh)
                have hA := After.later hw hbl q2 q3 hbr
                refine ⟨v', _, rfl, ?_, hA⟩
                rw [q1, hsl]
                exact .sliceG _ 0 0 _ _ cap 1 gg cur.size (Ren.set_same _ _ _) (by omega) (Nat.le_refl _) (by omega) (fun _ => rfl) (by omega)
    · cases h
  · cases h
theorem sortG_sound {f K : Nat} {t : TypeId} (hf : SortFn P f K t) (call : CallF) (args : List CV) (st : St) (v : CV) (st' : St) (h : sortG K t call args st = .ok v st') : CallOut P f args st v st' := by
  left
  unfold sortG at h
  split at h
  · rename_i k bb
    simp only [bsel_eq, Nat.beq_eq] at h
    split at h
    · rename_i hk
      subst hk
      split at h
      · rename_i mb ty g hbb
        split at h
        · rename_i es clock hmb
          split at h
          · rename_i hborn
            split at h
            · rename_i l hl
              refine sortRes_sound hf hl h hbb fun ρ w r sz hw hr => ?_
              obtain ⟨es', h1, h2, h3⟩ := hw.map hmb hr
              obtain ⟨b1, b2⟩ := bornOK_pair hborn
              have hbm : es'.map (·.born) = es.map (·.2.2) := by
                apply List.ext_getElem?
                intro i
                rw [List.getElem?_map, List.getElem?_map]
                rcases Nat.lt_or_ge i es'.length with hlt | hge
                · rw [List.getElem?_eq_getElem hlt, List.getElem?_eq_getElem (by omega)]
                  have := (h3 i es[i] es'[i] (List.getElem?_eq_getElem (by omega)) (List.getElem?_eq_getElem hlt)).2.2
                  simp [this]
                · have hge2 : es.length ≤ i := by omega
                  rw [List.getElem?_eq_none hge, List.getElem?_eq_none hge2]; rfl
              refine ⟨es', clock, es, h1, List.Perm.refl _, h2, fun i e e' g1 g2 => (h3 i e e' g1 g2).1, fun x hx => ?_, by rw [hbm]; exact b2⟩
              have : x.born ∈ es'.map (·.born) := List.mem_map_of_mem hx
              rw [hbm, List.mem_map] at this
              obtain ⟨e, he, he2⟩ := this
              rw [← he2]; exact b1 e he
            · cases h
          · cases h
        · rename_i es hmb
          split at h
          · rename_i l hl
            refine sortRes_sound hf hl h hbb fun ρ w r sz hw hr => ?_
            obtain ⟨pl, clock, es', h1, h2, h3, h4, h5, h6, h7⟩ := hw.lmap hmb hr
            exact ⟨es', clock, pl, h1, h2, h6, fun i e e' g1 g2 => (h7 i e e' g1 g2).1, fun x hx => h5.1 x (by simpa using hx), by simpa using h5.2.1⟩
          · cases h
        · cases h
      · cases h
    · cases h
  · cases h
end
end Sim
