import Derived.Test.YtfojoloiahhphaaGreatDoorSimDraw2
import Derived.Orders
/- Sim, part 24: every order comes to the same. -/
namespace Sim
open Go

noncomputable def dstIs (o : Oper) (p : Bp) : Bool := match o.dst with | some d => bpEq (Bp.enc d) p | none => false
noncomputable def looksOK (ops : Array Oper) (i : Nat) (x : CArg) : Bool :=
  match x with | .const _ => true | .tmp p => allL (idxL ops.toList 0) fun jo => bsel (dstIs jo.2 p) (bsel (Nat.ble (Nat.succ jo.1) i) (isAnc ops ops.size i jo.1) (Bool.and (Nat.ble (Nat.succ i) jo.1) (isAnc ops ops.size jo.1 i))) true
noncomputable def pairOK (P : Program) (ops : Array Oper) (i : Nat) (o : Oper) (j : Nat) (oj : Oper) : Bool :=
  bsel (Nat.ble (Nat.succ j) i) (Bool.and (match oj.dst with | some d => Bool.not (dstIs o (Bp.enc d)) | none => true) (bsel (Bool.and (isW P o) (isW P oj)) (isAnc ops ops.size i j) true)) true
noncomputable def statC (P : Program) (ops : Array Oper) : Bool :=
  allL (idxL ops.toList 0) fun io =>
    Bool.and (allL io.2.after.toList fun e => bsel (Region.binds .any e) (Nat.ble (Nat.succ e.on) io.1) true)
    (Bool.and (allL (looksL P ops io.2) fun x => looksOK ops io.1 x) (allL (idxL ops.toList 0) fun jo => pairOK P ops io.1 io.2 jo.1 jo.2))
section
variable {P : Program} {call : CallF} {n : Nat} {ops : Array Oper}
structure StatP (P : Program) (ops : Array Oper) : Prop where
  s1 : ∀ i o, ops.toList[i]? = some o → ∀ e ∈ o.after, Region.binds .any e = true → e.on < i
  s2 : ∀ i o, ops.toList[i]? = some o → ∀ p, CArg.tmp p ∈ looksL P ops o → ∀ j oj d, ops.toList[j]? = some oj → oj.dst = some d → Bp.enc d = p → (j < i ∧ isAnc ops ops.size i j = true) ∨ (i < j ∧ isAnc ops ops.size j i = true)
  s3 : Apart ops.toList
  s4 : ∀ i j o oj, ops.toList[i]? = some o → ops.toList[j]? = some oj → j < i → isW P o = true → isW P oj = true → isAnc ops ops.size i j = true
theorem statC_some (h : statC P ops = true) : StatP P ops := by
  unfold statC at h
  rw [allL_iff] at h
  have key : ∀ i o, ops.toList[i]? = some o → _ := fun i o ho => h (i, o) (by have := idxL_mem (i := 0) ho; simpa using this)
  refine ⟨fun i o ho e he hb => ?_, fun i o ho p hp j oj d hj hd hpe => ?_, fun j i oj o d hji hj ho hd hd' => ?_, fun i j o oj ho hj hji hw hwj => ?_⟩
  · have := key i o ho
    simp only [Bool.and_eq_true, allL_iff] at this
    have := this.1 e (by simpa using he)
    rw [hb] at this
    simpa [Nat.succ_le_iff] using this
  · have := key i o ho
    simp only [Bool.and_eq_true, allL_iff] at this
    have := this.2.1 _ hp
    unfold looksOK at this
    dsimp only at this
    rw [allL_iff] at this
    have := this (j, oj) (by have := idxL_mem (i := 0) hj; simpa using this)
    have hds : dstIs oj p = true := by unfold dstIs; rw [hd]; exact bpEq_iff.2 hpe
    simp only [hds, bsel_eq, if_true, Nat.ble_eq, Nat.succ_le_iff] at this
    split at this
    · rename_i hlt; exact .inl ⟨hlt, this⟩
    · simp only [Bool.and_eq_true, Nat.ble_eq, Nat.succ_le_iff] at this; exact .inr this
  · have := key i o ho
    simp only [Bool.and_eq_true, allL_iff] at this
    have := this.2.2 (j, oj) (by have := idxL_mem (i := 0) hj; simpa using this)
    unfold pairOK at this
    simp only [bsel_eq, Nat.ble_eq, Nat.succ_le_iff, if_pos hji, Bool.and_eq_true] at this
    have := this.1
    rw [hd] at this
    have hds : dstIs o (Bp.enc d) = true := by unfold dstIs; rw [hd']; exact bpEq_iff.2 rfl
    simp [hds] at this
  · have := key i o ho
    simp only [Bool.and_eq_true, allL_iff] at this
    have := this.2.2 (j, oj) (by have := idxL_mem (i := 0) hj; simpa using this)
    unfold pairOK at this
    simp only [bsel_eq, Nat.ble_eq, Nat.succ_le_iff, if_pos hji, Bool.and_eq_true] at this
    have := this.2
    simpa [hw, hwj] using this

/-- Readers read the same in every state in which they may come. -/
def DynP (P : Program) (call : CallF) (ops : Array Oper) (chain : List St) (trs : List TR) : Prop := ∀ (i : Nat) (t : TR), trs[i]? = some t → isW P t.o = false → isB P t.o = false → ∀ (c : Nat) (s : St), chain[c]? = some s →
    (∃ u ∈ trs, u.w = true ∧ u.c < c ∧ isAnc ops ops.size u.i t.i = true) ∨ (∃ u ∈ trs, u.w = true ∧ c ≤ u.c ∧ isAnc ops ops.size t.i u.i = true) ∨ ∃ s1, stepD P call ops t.ab t.o t.fr s = .ok t.v s1
/-- Writers that are not ordered with a late block leave it alone. -/
def LateP (P : Program) (ops : Array Oper) (as : List (Option Bp)) (chain : List St) (trs : List TR) : Prop := ∀ (j : Nat) (tj : TR) (b : Bp), trs[j]? = some tj → isB P tj.o = true → as[j]? = some (some b) → ∀ (d : Nat) (td : TR), trs[d]? = some td → isW P td.o = true →
    isAnc ops ops.size d j = false → isAnc ops ops.size j d = false → (d < j → ∀ s, chain[td.c]? = some s → s.mem.get b = none) ∧ (j < d → ∀ s s', chain[td.c]? = some s → chain[td.c + 1]? = some s' → s'.mem.get b = s.mem.get b)
theorem anc_lt (hst : StatP P ops) : ∀ (f i j : Nat), isAnc ops f i j = true → j < i := by
  intro f
  induction f with
  | zero => intro i j h; cases h
  | succ f ih =>
    intro i j h
    have e : isAnc ops (f + 1) i j = (match ops[i]? with
      | none => false
      | some o => anyL o.after.toList fun e => Bool.and (Region.binds .any e) (forceN e.on fun k => Bool.or (Nat.beq k j) (isAnc ops f k j))) := rfl
    rw [e] at h
    split at h
    · cases h
    · rename_i o ho
      rw [anyL_iff] at h
      obtain ⟨x, hx, h⟩ := h
      simp only [forceN_eq, Bool.and_eq_true, Bool.or_eq_true, Nat.beq_eq] at h
      have := hst.s1 i o (by simpa using ho) x (by simpa using hx) h.1
      rcases h.2 with h2 | h2
      · omega
      · have := ih _ _ h2; omega
open Classical in
theorem overlay (s : St) (f : Bp → Option Blk) : ∀ names : List Bp, ∃ M : St, M.next = s.next ∧ ∀ q, M.mem.get q = if q ∈ names then f q else s.mem.get q := by
  intro names
  induction names with
  | nil => exact ⟨s, rfl, fun q => by simp⟩
  | cons b names ih =>
    obtain ⟨M, h1, h2⟩ := ih
    refine ⟨⟨M.mem.put b (f b), M.next⟩, h1, fun q => ?_⟩
    show (M.mem.put b (f b)).get q = _
    rw [PT.get_put, h2]
    by_cases e : q = b
    · subst e; simp
    · simp [e]

/- how many are left -/
noncomputable def unl (N : Nat) (listed : Array Bool) : Nat := (List.range N).countP fun i => !listed.getD i true
theorem unl_set {N : Nat} {listed : Array Bool} {i : Nat} (hi : i < N) (hs : listed.size = N) (hu : listed.getD i true = false) : unl N (listed.setIfInBounds i true) < unl N listed := by
  unfold unl
  have key : ∀ (l : List Nat), i ∈ l → l.Nodup → l.countP (fun k => !(listed.setIfInBounds i true).getD k true) < l.countP (fun k => !listed.getD k true) := by
    have same : ∀ k, k ≠ i → (listed.setIfInBounds i true).getD k true = listed.getD k true := fun k hk => by simp [Array.getElem?_setIfInBounds_ne (Ne.symm hk)]
    have at_i : (listed.setIfInBounds i true).getD i true = true := by simp [hs, hi]
    intro l
    induction l with
    | nil => intro h; simp at h
    | cons k l ih =>
      intro h hn
      rw [List.nodup_cons] at hn
      rw [List.countP_cons, List.countP_cons]
      by_cases hk : k = i
      · subst hk
        have : l.countP (fun k' => !(listed.setIfInBounds k true).getD k' true) = l.countP (fun k' => !listed.getD k' true) := by
          apply List.countP_congr
          intro x hx
          rw [same x (fun e => hn.1 (e ▸ hx))]
        rw [this, at_i, hu]; simp
      · have hl : i ∈ l := by simpa [Ne.symm hk] using h
        have := ih hl hn.2
        rw [same k hk]; omega
  exact key _ (by simpa using hi) List.nodup_range

theorem lst_set {listed : Array Bool} {i j : Nat} (hi : i < listed.size) : Lst (listed.setIfInBounds i true) j ↔ j = i ∨ Lst listed j := by
  unfold Lst
  by_cases h : j = i
  · subst h; simp [hi]
  · simp [Array.getElem?_setIfInBounds_ne (Ne.symm h), h]
theorem ready_iff {listed : Array Bool} {i : Nat} (hs : listed.size = ops.size) : i ∈ Region.ready .any ops listed ↔ i < ops.size ∧ ¬ Lst listed i ∧ Deps ops listed i := by
  unfold Region.ready
  rw [List.mem_filter, List.mem_range]
  constructor
  · rintro ⟨h1, h2⟩
    simp only [Bool.and_eq_true, Bool.not_eq_true'] at h2
    refine ⟨h1, ?_, ?_⟩
    · unfold Lst
      have : listed.getD i false = listed.getD i true := by simp [hs, h1]
      rw [this, h2.1]; simp
    · intro o ho e he hb
      have := h2.2
      rw [ho] at this
      simp only [Option.map_some, Option.getD_some, Array.all_eq_true_iff_forall_mem] at this
      have := this e he
      rw [hb] at this
      simpa [Lst] using this
  · rintro ⟨h1, h2, h3⟩
    refine ⟨h1, ?_⟩
    simp only [Bool.and_eq_true, Bool.not_eq_true']
    constructor
    · unfold Lst at h2
      have : listed.getD i false = listed.getD i true := by simp [hs, h1]
      rw [this] at h2; simpa using h2
    · have ho : ops[i]? = some ops[i] := by simp
      rw [ho]
      simp only [Option.map_some, Option.getD_some, Array.all_eq_true_iff_forall_mem]
      intro e he
      cases hb : Region.binds .any e with
      | false => rfl
      | true => have := h3 _ ho e he hb; simpa [Lst] using this
theorem all_listed (hst : StatP P ops) {listed : Array Bool} (hs : listed.size = ops.size) (h : Region.ready .any ops listed = []) : ∀ i, i < ops.size → Lst listed i := by
  intro i
  induction i using Nat.strongRecOn with
  | _ i ih =>
    intro hi
    by_cases hl : Lst listed i
    · exact hl
    · have : i ∈ Region.ready .any ops listed := (ready_iff hs).2 ⟨hi, hl, fun o ho e he hb => by
        have := hst.s1 i o (by simpa using ho) e he hb
        exact ih _ this (by omega)⟩
      rw [h] at this; simp at this

structure Base (P : Program) (ops : Array Oper) (as : List (Option Bp)) (trs : List TR) (listed : Array Bool) (c : Nat) (ρ : Ren) (s M : St) : Prop where
  next : M.next = s.next
  late : ∀ (j : Nat) (t : TR) (b : Bp) (x : Nat × Nat), Lst listed j → trs[j]? = some t → isB P t.o = true → as[j]? = some (some b) → ρ b = some x → t.s.mem.get b = none ∧ (c < cnt P ops.toList j → M.mem.get b = t.s1.mem.get b ∧ s.mem.get b = none)
  old : ∀ (q : Bp) (x : Nat × Nat), ρ q = some x → (∀ (j : Nat) (t : TR), as[j]? = some (some q) → trs[j]? = some t → isB P t.o = true → ¬ c < cnt P ops.toList j) → M.mem.get q = s.mem.get q
structure Inv (P : Program) (ops : Array Oper) (as : List (Option Bp)) (trs : List TR) (ch : List St) (stf : St) (n : Nat) (ρ0 : Ren) (stA st0 : St) (fr0 : Fr) (w0 : World) (listed : Array Bool) (a : Act) (w : World) : Prop where
  size : listed.size = ops.size
  closed : ∀ i, Lst listed i → Deps ops listed i
  inner : ∀ i, Lst listed i → i < ops.size
  data : ∃ fr c ρ s M, FrP ops.toList trs (Lst listed) fr0 fr ∧ (∀ j o, ops.toList[j]? = some o → isW P o = true → (Lst listed j ↔ cnt P ops.toList j < c)) ∧ c ≤ ch.length ∧ (ch ++ [stf])[c]? = some s ∧ FR ρ fr a.tmps ∧ After ρ0 stA w0 ρ M w ∧ st0.next.dec ≤ s.next.dec ∧ (∀ j b, ¬ Lst listed j → as[j]? = some (some b) → ρ b = none) ∧ Base P ops as trs listed c ρ s M
  sz : n ≤ a.tmps.size
  defers : a.defers = []

variable {as : List (Option Bp)} {trs : List TR} {ch : List St} {ρ0 : Ren} {stA st0 stf : St} {fr0 frf : Fr} {w0 : World}

theorem zip_at {α β : Type} {l : List α} {as : List β} (h : as.length = l.length) {j : Nat} {o : α} (hj : l[j]? = some o) : ∃ ab, (l.zip as)[j]? = some (o, ab) ∧ as[j]? = some ab := by
  have hlt := (List.getElem?_eq_some_iff.1 hj).1
  refine ⟨as[j]'(by omega), ?_, by simp [h, hlt]⟩
  rw [List.getElem?_zip_eq_some]
  exact ⟨hj, by simp [h, hlt]⟩

section
variable (hpre : PreOK P ops.toList stA as st0) (htr : TrOK (ops.toList.zip as) P call n ops 0 0 fr0 st0 trs ch frf stf)
include hpre htr
theorem op_at {j : Nat} {o : Oper} (ho : ops.toList[j]? = some o) : ∃ t ab, trs[j]? = some t ∧ as[j]? = some ab ∧ t.i = j ∧ t.ab = ab ∧ t.o = o ∧ t.w = isW P o ∧ t.c = cnt P ops.toList j ∧ (∀ d, o.dst = some d → d < n) ∧ FrP ops.toList trs (· < j) fr0 t.fr ∧
    stepD P call ops ab o t.fr t.s = .ok t.v t.s1 ∧ (isW P o = true → (ch ++ [stf])[cnt P ops.toList j]? = some t.s) := by
  obtain ⟨ab, hz, hab⟩ := zip_at hpre.len ho
  have hmap : (ops.toList.zip as).map (·.1) = ops.toList := List.map_fst_zip (by rw [hpre.len]; exact Nat.le_refl _)
  obtain ⟨t, t1, t2, t3, t4, t5, t6, t7, t8, t9, t10⟩ := htr.at' j o ab hz
  rw [hmap] at t6 t8 t10
  refine ⟨t, ab, t1, hab, by omega, t3, t4, t5, by omega, t7, t8, t9, fun h => ?_⟩
  have := t10 h
  rw [List.getElem?_append_left (List.getElem?_eq_some_iff.1 this).1]; exact this
theorem tr_at {j : Nat} {t : TR} (ht : trs[j]? = some t) : ops.toList[j]? = some t.o := by
  have hzl : (ops.toList.zip as).length = ops.toList.length := by rw [List.length_zip, hpre.len]; simp
  have hj : j < ops.toList.length := by rw [← hzl, ← htr.len]; exact (List.getElem?_eq_some_iff.1 ht).1
  obtain ⟨t', ab, h1, _, _, _, h2, _⟩ := op_at hpre htr (List.getElem?_eq_getElem hj)
  rw [ht] at h1; cases h1
  rw [h2, List.getElem?_eq_getElem hj]
theorem trs_len : trs.length = ops.toList.length := by rw [htr.len, List.length_zip, hpre.len]; simp
theorem chl_eq : ch.length = cnt P ops.toList ops.toList.length := by
  have hmap : (ops.toList.zip as).map (·.1) = ops.toList := List.map_fst_zip (by rw [hpre.len]; exact Nat.le_refl _)
  have hzl : (ops.toList.zip as).length = ops.toList.length := by rw [List.length_zip, hpre.len]; simp
  have := htr.chl
  rw [hmap, hzl] at this; exact this
/-- Between writers only late blocks come. -/
theorem gap {k : Nat} : ∀ {k' : Nat}, k ≤ k' → k' ≤ ops.toList.length → (∀ j o, k ≤ j → j < k' → ops.toList[j]? = some o → isW P o = false) →
    (preS trs stf k').next = (preS trs stf k).next ∧ ∀ q, (∀ j t, k ≤ j → j < k' → trs[j]? = some t → isB P t.o = true → as[j]? ≠ some (some q)) → (preS trs stf k').mem.get q = (preS trs stf k).mem.get q := by
  intro k'
  induction k' with
  | zero => intro h _ _; have : k = 0 := by omega
            subst this; exact ⟨rfl, fun _ _ => rfl⟩
  | succ k' ih =>
    intro h hl hw
    by_cases hk : k = k' + 1
    · subst hk; exact ⟨rfl, fun _ _ => rfl⟩
    obtain ⟨i1, i2⟩ := ih (by omega) (by omega) (fun j o h1 h2 => hw j o h1 (by omega))
    have ho : ops.toList[k']? = some ops.toList[k'] := List.getElem?_eq_getElem (by omega)
    generalize ops.toList[k'] = o at ho
    obtain ⟨t, ab, h1, h2, h3, h4, h5, h6, h7, h8, h9, h10, h11⟩ := op_at hpre htr ho
    have hnx := htr.nxt k' t h1
    have hps : preS trs stf k' = t.s := by unfold preS; rw [h1]
    rw [← hnx, ← i1, hps]
    have hnw := hw k' o (by omega) (by omega) ho
    cases hb : isB P o with
    | false =>
      have := stepD_still hnw hb h10
      rw [this]
      exact ⟨rfl, fun q hq => by rw [← i2 q fun j t g1 g2 => hq j t g1 (by omega), hps]⟩
    | true =>
      obtain ⟨x, hx⟩ := isB_some hb
      obtain ⟨b, hbb⟩ := hpre.news k' o ho (.inr hb)
      rw [h2] at hbb; cases hbb
      rcases stepLate_inv hx h10 with ⟨_, _, e⟩ | ⟨_, s, _, _, _, e⟩
      · rw [e]
        exact ⟨rfl, fun q hq => by rw [← i2 q fun j t g1 g2 => hq j t g1 (by omega), hps]⟩
      · rw [e]
        refine ⟨rfl, fun q hq => ?_⟩
        have hne : q ≠ b := fun e => hq k' t (by omega) (by omega) h1 (by rw [h5]; exact hb) (by rw [h2, e])
        show (t.s.mem.put b _).get q = _
        rw [PT.get_put_ne _ _ _ _ hne, ← i2 q fun j t g1 g2 => hq j t g1 (by omega), hps]
/-- The next writer. -/
theorem next_at : ∀ (m k : Nat), k + m = ops.toList.length → ∃ k2, k ≤ k2 ∧ k2 ≤ ops.toList.length ∧ (∀ j o, k ≤ j → j < k2 → ops.toList[j]? = some o → isW P o = false) ∧ cnt P ops.toList k2 = cnt P ops.toList k ∧ (ch ++ [stf])[cnt P ops.toList k]? = some (preS trs stf k2) ∧
    (k2 = ops.toList.length ∨ ∃ o, ops.toList[k2]? = some o ∧ isW P o = true) := by
  intro m
  induction m with
  | zero =>
    intro k hk
    have : k = ops.toList.length := by omega
    refine ⟨k, Nat.le_refl _, by omega, fun j o h1 h2 => by omega, rfl, ?_, .inl this⟩
    rw [this, ← chl_eq hpre htr]
    have : preS trs stf ops.toList.length = stf := by unfold preS; rw [List.getElem?_eq_none (by rw [trs_len hpre htr]; exact Nat.le_refl _)]
    rw [this]; simp
  | succ m ih =>
    intro k hk
    have ho : ops.toList[k]? = some ops.toList[k] := List.getElem?_eq_getElem (by omega)
    generalize ops.toList[k] = o at ho
    cases hw : isW P o with
    | true =>
      obtain ⟨t, ab, h1, h2, h3, h4, h5, h6, h7, h8, h9, h10, h11⟩ := op_at hpre htr ho
      refine ⟨k, Nat.le_refl _, by omega, fun j o h1 h2 => by omega, rfl, ?_, .inr ⟨o, ho, hw⟩⟩
      rw [h11 hw]; unfold preS; rw [h1]
    | false =>
      have hc := cnt_succ (P := P) ho
      rw [hw] at hc
      simp only [Bool.false_eq_true, if_false, Nat.add_zero] at hc
      obtain ⟨k2, g1, g2, g3, g4, g5, g6⟩ := ih (k + 1) (by omega)
      refine ⟨k2, by omega, g2, fun j o' j1 j2 hj => ?_, by rw [g4, hc], by rw [← hc]; exact g5, g6⟩
      by_cases e : j = k
      · subst e; rw [ho] at hj; cases hj; exact hw
      · exact g3 j o' (by omega) j2 hj
/-- A late block as the next writer finds it. -/
theorem late_chain {j : Nat} {t : TR} {b : Bp} (ht : trs[j]? = some t) (hb : isB P t.o = true) (ha : as[j]? = some (some b)) : ∃ s, (ch ++ [stf])[cnt P ops.toList j]? = some s ∧ s.mem.get b = t.s1.mem.get b := by
  have ho := tr_at hpre htr ht
  have hjl := (List.getElem?_eq_some_iff.1 ho).1
  have hc := cnt_succ (P := P) ho
  rw [isB_isW hb] at hc
  simp only [Bool.false_eq_true, if_false, Nat.add_zero] at hc
  obtain ⟨k2, g1, g2, g3, g4, g5, g6⟩ := next_at hpre htr (ops.toList.length - (j + 1)) (j + 1) (by omega)
  rw [hc] at g5
  refine ⟨_, g5, ?_⟩
  rw [(gap hpre htr g1 g2 g3).2 b fun j' t' h1 h2 h3 h4 h5 => by have := hpre.uniq j j' b ha h5; omega, ← htr.nxt j t ht]
end

theorem Inv.done (hpre : PreOK P ops.toList stA as st0) (htr : TrOK (ops.toList.zip as) P call n ops 0 0 fr0 st0 trs ch frf stf) {listed : Array Bool} {a : Act} {w : World} (h : Inv P ops as trs ch stf n ρ0 stA st0 fr0 w0 listed a w) (hall : ∀ i, i < ops.size → Lst listed i) :
    Post ρ0 stA w0 n (.norm frf stf) .normal a w := by
  obtain ⟨fr, c, ρ, s, M, h1, h2, h3, h4, h5, h6, h7, h8, h9⟩ := h.data
  have hmap : (ops.toList.zip as).map (·.1) = ops.toList := List.map_fst_zip (by rw [hpre.len]; exact Nat.le_refl _)
  have hzl : (ops.toList.zip as).length = ops.toList.length := by rw [List.length_zip, hpre.len]; simp
  have hc : c = ch.length := by
    by_cases hlt : c < ch.length
    · rw [chl_eq hpre htr] at hlt
      obtain ⟨j, o, g1, g2, g3, g4⟩ := cnt_onto (P := P) (l := ops.toList) ops.toList.length (Nat.le_refl _) c hlt
      have := (h2 j o g2 g3).1 (hall j (by simpa using g1))
      omega
    · omega
  subst hc
  have hs : s = stf := by
    rw [List.getElem?_append_right (Nat.le_refl _)] at h4
    simp at h4; exact h4.symm
  subst hs
  have hA : After ρ0 stA w0 ρ s w := h6.silent (fun q x hx => (h9.old q x hx fun j t _ ht hb hlt => by
    have ho := tr_at hpre htr ht
    have hjl := (List.getElem?_eq_some_iff.1 ho).1
    have := cnt_mono (P := P) (l := ops.toList) (Nat.le_of_lt hjl)
    have := chl_eq hpre htr
    omega).symm) h9.next.symm
  refine ⟨rfl, ρ, ⟨fun t => ?_, h.sz, h.defers, hA⟩⟩
  have : fget frf (Bp.enc t) = fget fr (Bp.enc t) := by
    have hfin := htr.fin
    rw [hmap] at hfin
    by_cases hd : ∃ (j : Nat) (o : Oper) (d : Tmp), ops.toList[j]? = some o ∧ o.dst = some d ∧ d = t
    · obtain ⟨j, o, d, g1, g2, rfl⟩ := hd
      have hj : j < ops.toList.length := (List.getElem?_eq_some_iff.1 g1).1
      obtain ⟨t', _, g3, _⟩ := op_at hpre htr g1
      rw [hfin.1 j o d t' (by show j < _; rw [hzl]; exact hj) g1 g2 g3, h1.1 j o d t' (hall j (by simpa using hj)) g1 g2 g3]
    · rw [hfin.2, h1.2]
      · exact fun j o d _ g1 g2 e => hd ⟨j, o, d, g1, g2, Bp.enc_inj e⟩
      · exact fun j o d _ g1 g2 e => hd ⟨j, o, d, g1, g2, Bp.enc_inj e⟩
  rw [this]; exact h5 t

theorem Base.sub {listed : Array Bool} {c : Nat} {ρ : Ren} {s M : St} (h : Base P ops as trs listed c ρ s M) (hp : ∀ j b, ¬ Lst listed j → as[j]? = some (some b) → ρ b = none) : ∀ q x, ρ q = some x → s.mem.get q = M.mem.get q ∨ s.mem.get q = none := by
  intro q x hx
  by_cases hh : ∃ (j : Nat) (t : TR), as[j]? = some (some q) ∧ trs[j]? = some t ∧ isB P t.o = true ∧ c < cnt P ops.toList j
  · obtain ⟨j, t, g1, g2, g3, g4⟩ := hh
    by_cases hl : Lst listed j
    · exact .inr ((h.late j t q x hl g2 g3 g1 hx).2 g4).2
    · rw [hp j q hl g1] at hx; cases hx
  · exact .inl (h.old q x hx fun j t g1 g2 g3 g4 => hh ⟨j, t, g1, g2, g3, g4⟩).symm
def LateAt (P : Program) (ops : Array Oper) (as : List (Option Bp)) (trs : List TR) (listed : Array Bool) (c : Nat) (ρ : Ren) (q : Bp) : Prop := ∃ (j : Nat) (t : TR) (x : Nat × Nat), Lst listed j ∧ trs[j]? = some t ∧ isB P t.o = true ∧ as[j]? = some (some q) ∧ c < cnt P ops.toList j ∧ ρ q = some x
open Classical in
/-- A step at the base, and what lies beyond it. -/
theorem Base.step {listed : Array Bool} {c : Nat} {ρ ρ' : Ren} {s s1 M : St} {w w' : World} (h : Base P ops as trs listed c ρ s M) (hp : ∀ j b, ¬ Lst listed j → as[j]? = some (some b) → ρ b = none) (h6 : After ρ0 stA w0 ρ M w) (hA : After ρ s w ρ' s1 w')
    (_ : ∀ q, LateAt P ops as trs listed c ρ q → s1.mem.get q = none) : ∃ M1, After ρ0 stA w0 ρ' M1 w' ∧ M1.next = s1.next ∧ ∀ q, M1.mem.get q = if LateAt P ops as trs listed c ρ q then M.mem.get q else s1.mem.get q := by
  obtain ⟨M1, g1, g2⟩ := overlay s1 (fun q => if LateAt P ops as trs listed c ρ q then M.mem.get q else s1.mem.get q) (as.filterMap id)
  have g3 : ∀ q, M1.mem.get q = if LateAt P ops as trs listed c ρ q then M.mem.get q else s1.mem.get q := by
    intro q
    rw [g2]
    by_cases hq : q ∈ as.filterMap id
    · rw [if_pos hq]
    · rw [if_neg hq, if_neg]
      rintro ⟨j, t, x, _, _, _, k1, _⟩
      refine hq (List.mem_filterMap.2 ⟨some q, List.mem_of_getElem? k1, rfl⟩)
  refine ⟨M1, h6.trans (After.frame h6.wr h.next.symm (h.sub hp) hA g1 fun q x hx => ?_), g1, g3⟩
  by_cases hl : LateAt P ops as trs listed c ρ q
  · right
    obtain ⟨j, t, y, k1, k2, k3, k4, k5, k6⟩ := hl
    have hl : LateAt P ops as trs listed c ρ q := ⟨j, t, y, k1, k2, k3, k4, k5, k6⟩
    exact ⟨⟨y, k6⟩, ((h.late j t q y k1 k2 k3 k4 k6).2 k5).2, by rw [g3, if_pos hl]⟩
  · left; rw [g3, if_neg hl]

open Classical in
theorem Inv.step (hc : CallSound P call) (hst : StatP P ops) (hpre : PreOK P ops.toList stA as st0) (htr : TrOK (ops.toList.zip as) P call n ops 0 0 fr0 st0 trs ch frf stf) (hdy : DynP P call ops (ch ++ [stf]) trs) (hlt : LateP P ops as (ch ++ [stf]) trs) {listed : Array Bool} {a : Act} {w : World}
    (h : Inv P ops as trs ch stf n ρ0 stA st0 fr0 w0 listed a w) {i : Nat} (hi : i ∈ Region.ready .any ops listed) {K : Act → World → Prop} {Q : Exit → Act → World → Prop}
    (hK : ∀ a' w', Inv P ops as trs ch stf n ρ0 stA st0 fr0 w0 (listed.setIfInBounds i true) a' w' → K a' w') : wpOp P ops Q i K a w := by
  obtain ⟨hin, hnl, hdeps⟩ := (ready_iff h.size).1 hi
  obtain ⟨fr, c, ρ, s, M, h1, h2, h3, h4, h5, h6, h7, h8, h9⟩ := h.data
  have ho : ops[i]? = some ops[i] := by simp
  generalize ops[i] = o at ho
  have ho' : ops.toList[i]? = some o := by simpa using ho
  obtain ⟨t, ab, t1, hab, t2, t2', t3, t4, t5, t6, t7, t9, t10⟩ := op_at hpre htr ho'
  have hanc : ∀ j, isAnc ops ops.size i j = true → Lst listed j := fun j hj => anc_listed h.closed _ _ _ hj hdeps
  have hanc' : ∀ j k, isAnc ops ops.size k j = true → Lst listed k → Lst listed j := fun j k hj hk => anc_listed h.closed _ _ _ hj (h.closed k hk)
  have hls : i < listed.size := by rw [h.size]; exact hin
  -- what is looked at
  have hlook : ∀ x ∈ looksL P ops o, ev fr x = ev t.fr x := by
    intro x hx
    cases x with
    | const v => rfl
    | tmp p =>
      show fget fr p = fget t.fr p
      by_cases hd : ∃ (j : Nat) (oj : Oper) (d : Tmp), ops.toList[j]? = some oj ∧ oj.dst = some d ∧ Bp.enc d = p
      · obtain ⟨j, oj, d, g1, g2, g3⟩ := hd
        have huniq : ∀ (j' : Nat) (o' : Oper) (d' : Tmp), ops.toList[j']? = some o' → o'.dst = some d' → Bp.enc d' = p → j' = j := by
          intro j' o' d' k1 k2 k3
          have : d' = d := Bp.enc_inj (by rw [k3, g3])
          subst this
          rcases Nat.lt_trichotomy j' j with hlt | heq | hgt
          · exact absurd g2 (hst.s3 j' j o' oj d' hlt k1 g1 k2)
          · exact heq
          · exact absurd k2 (hst.s3 j j' oj o' d' hgt g1 k1 g2)
        rcases hst.s2 i o ho' p hx j oj d g1 g2 g3 with ⟨g4, g5⟩ | ⟨g4, g5⟩
        · obtain ⟨tj, _, g6, _⟩ := op_at hpre htr g1
          subst g3
          rw [h1.1 j oj d tj (hanc j g5) g1 g2 g6, t7.1 j oj d tj g4 g1 g2 g6]
        · rw [h1.2, t7.2]
          · intro j' o' d' k0 k1 k2 k3
            have := huniq j' o' d' k1 k2 k3
            have k0 : j' < i := k0
            omega
          · intro j' o' d' k0 k1 k2 k3
            have := huniq j' o' d' k1 k2 k3
            subst this
            exact hnl (hanc' i j' g5 k0)
      · rw [h1.2, t7.2]
        · exact fun j o d _ g1 g2 e => hd ⟨j, o, d, g1, g2, e⟩
        · exact fun j o d _ g1 g2 e => hd ⟨j, o, d, g1, g2, e⟩
  -- what is left when the step is done
  have fin : ∀ v' w' ρ' c2 s2 M2, VR ρ' t.v v' → ρ.le ρ' → (∀ j oj, ops.toList[j]? = some oj → isW P oj = true → (j = i ∨ Lst listed j ↔ cnt P ops.toList j < c2)) → c2 ≤ ch.length → (ch ++ [stf])[c2]? = some s2 → After ρ0 stA w0 ρ' M2 w' → st0.next.dec ≤ s2.next.dec →
      (∀ j b, ¬ Lst (listed.setIfInBounds i true) j → as[j]? = some (some b) → ρ' b = none) → Base P ops as trs (listed.setIfInBounds i true) c2 ρ' s2 M2 → K (a.put o.dst v') w' := by
    intro v' w' ρ' c2 s2 M2 hv hle k4 k3 k2 hA k7 k8 k9
    refine hK _ _ {
      size := by simp [h.size]
      closed := fun j hj o' hoj e he hb => by
        rw [lst_set hls] at hj ⊢
        rcases hj with rfl | hj
        · exact .inr (hdeps o' hoj e he hb)
        · exact .inr (h.closed j hj o' hoj e he hb)
      inner := fun j hj => by
        rw [lst_set hls] at hj
        rcases hj with rfl | hj
        · exact hin
        · exact h.inner j hj
      data := by
        cases hd : o.dst with
        | none =>
          refine ⟨fr, c2, ρ', s2, M2, ⟨fun j oj d tj g1 g2 g3 g4 => ?_, fun p hp => h1.2 p fun j oj d g1 => hp j oj d ((lst_set hls).2 (.inr g1))⟩, fun j oj g1 g2 => ?_, k3, k2, h5.mono hle, hA, k7, k8, k9⟩
          · rcases (lst_set hls).1 g1 with rfl | g1
            · rw [ho'] at g2; cases g2; rw [hd] at g3; cases g3
            · exact h1.1 j oj d tj g1 g2 g3 g4
          · rw [lst_set hls]; exact k4 j oj g1 g2
        | some d =>
          refine ⟨fr.put (Bp.enc d) (some t.v), c2, ρ', s2, M2, ⟨fun j oj d' tj g1 g2 g3 g4 => ?_, fun p hp => ?_⟩, fun j oj g1 g2 => ?_, k3, k2, (h5.mono hle).putO (Nat.lt_of_lt_of_le (t6 d hd) h.sz) hv, hA, k7, k8, k9⟩
          · rcases (lst_set hls).1 g1 with rfl | g1
            · rw [ho'] at g2; cases g2; rw [hd] at g3; cases g3; rw [t1] at g4; cases g4
              exact fget_put_same _ _ _
            · have g1' : Lst listed j := g1
              rw [fget_put_ne]
              · exact h1.1 j oj d' tj g1 g2 g3 g4
              · intro e
                have := Bp.enc_inj e; subst this
                rcases Nat.lt_trichotomy j i with hlt | heq | hgt
                · exact hst.s3 j i oj o d' hlt g2 ho' g3 hd
                · rw [heq] at g1'; exact hnl g1'
                · exact hst.s3 i j o oj d' hgt ho' g2 hd g3
          · rw [fget_put_ne]
            · exact h1.2 p fun j oj d' g1 => hp j oj d' ((lst_set hls).2 (.inr g1))
            · exact fun e => hp i o d ((lst_set hls).2 (.inl rfl)) ho' hd e.symm
          · rw [lst_set hls]; exact k4 j oj g1 g2
      sz := by rw [put_size]; exact h.sz
      defers := by rw [put_defers]; exact h.defers }
  -- a step that is no writer leaves the writers as they were
  have hsame : isW P o = false → ∀ j oj, ops.toList[j]? = some oj → isW P oj = true → (j = i ∨ Lst listed j ↔ cnt P ops.toList j < c) := fun hw j oj g1 g2 => by
    rw [h2 j oj g1 g2]
    constructor
    · rintro (e | e)
      · subst e; rw [ho'] at g1; cases g1; rw [hw] at g2; cases g2
      · exact e
    · exact .inr
  have hunl : ∀ j b, ¬ Lst (listed.setIfInBounds i true) j → as[j]? = some (some b) → j ≠ i ∧ ρ b = none := fun j b hj hb => by
    rw [lst_set hls] at hj
    exact ⟨fun e => hj (.inl e), h8 j b (fun hh => hj (.inr hh)) hb⟩
  have hlate : ∀ j, Lst (listed.setIfInBounds i true) j → j ≠ i → Lst listed j := fun j hj hne => by
    rcases (lst_set hls).1 hj with e | e
    · exact absurd e hne
    · exact e
  unfold wpOp
  rw [ho]
  dsimp only
  suffices hgo : (if Region.wanted o (yielded ops a.tmps) then Oper.wp P o a w K Q else K (a.put o.dst undef) w) by
    split
    · rename_i hwt; rw [if_pos hwt] at hgo; exact .inl hgo
    · rename_i hwt; rw [if_neg hwt] at hgo; exact hgo
  cases hnew : newF P o with
  | some tz =>
    -- a block laid ahead
    obtain ⟨b, hb⟩ := hpre.news i o ho' (.inl (by rw [hnew]; simp))
    rw [hab] at hb; cases hb
    have hr := hpre.range i b hab
    have hbn := h8 i b hnl hab
    have hw : isW P o = false := by unfold isW; rw [hnew]
    have hB : isB P o = false := by unfold isB; rw [newF_late (by rw [hnew]; simp)]
    have huj : ∀ u ∈ trs, u.w = true → ∃ j oj, ops.toList[j]? = some oj ∧ isW P oj = true ∧ u.i = j ∧ u.c = cnt P ops.toList j := by
      intro u hu huw
      obtain ⟨j, hj, rfl⟩ := List.getElem_of_mem hu
      have hoj := tr_at hpre htr (List.getElem?_eq_getElem hj)
      obtain ⟨tj, _, g1, _, g2, _, _, g3, g4, _⟩ := op_at hpre htr hoj
      rw [List.getElem?_eq_getElem hj] at g1; cases g1
      exact ⟨j, _, hoj, by rw [← g3]; exact huw, g2, g4⟩
    have hstep : ∃ s1, stepD P call ops (some b) o fr s = .ok t.v s1 := by
      rw [stepD_congr hlook]
      rcases hdy i t t1 (by rw [t3]; exact hw) (by rw [t3]; exact hB) c s h4 with ⟨u, g1, g2, g3, g4⟩ | ⟨u, g1, g2, g3, g4⟩ | ⟨s2, g⟩
      · obtain ⟨j, oj, k1, k2, k3, k4⟩ := huj u g1 g2
        rw [t2, k3] at g4
        exact absurd (hanc' i j g4 ((h2 j oj k1 k2).2 (by omega))) hnl
      · obtain ⟨j, oj, k1, k2, k3, k4⟩ := huj u g1 g2
        rw [t2, k3] at g4
        have := (h2 j oj k1 k2).1 (hanc j g4)
        omega
      · rw [t3, t2'] at g; exact ⟨s2, g⟩
    obtain ⟨sx, hsx⟩ := hstep
    obtain ⟨M2, m1, m2⟩ := overlay M (fun _ => s.mem.get b) [b]
    have m3 : ∀ q x, ρ q = some x → M2.mem.get q = M.mem.get q := fun q x hx => by
      rw [m2, if_neg (fun e => by have := List.mem_singleton.1 e; subst this; rw [hbn] at hx; cases hx)]
    have hA2 := h6.silent m3 m1
    refine stepNew_sound hnew hsx (by rw [m2, if_pos (by simp)]) hA2 h5 hbn (by rw [m1, h9.next]; omega) (by omega) fun v' w' ρ' hv hA hle hq => fin v' w' ρ' c s M2 hv hle (hsame hw) h3 h4 hA h7 (fun j b' hj hb' => ?_) ⟨by rw [m1]; exact h9.next, fun j t' b' x hj ht' hb' ha hx => ?_, fun q x hx hno => ?_⟩
    · obtain ⟨k1, k2⟩ := hunl j b' hj hb'
      rw [hq b' (fun e => k1 (hpre.uniq j i b' hb' (by rw [e]; exact hab)))]
      exact k2
    · have hji : j ≠ i := fun e => by subst e; rw [t1] at ht'; cases ht'; rw [t3, hB] at hb'; cases hb'
      have hne : b' ≠ b := fun e => hji (hpre.uniq j i b' ha (by rw [e]; exact hab))
      rw [hq b' hne] at hx
      obtain ⟨k1, k2⟩ := h9.late j t' b' x (hlate j hj hji) ht' hb' ha hx
      exact ⟨k1, fun hcj => by rw [m3 b' x hx]; exact k2 hcj⟩
    · by_cases e : q = b
      · subst e; rw [m2, if_pos (by simp)]
      · rw [hq q e] at hx
        rw [m3 q x hx]
        exact h9.old q x hx hno
  | none =>
    cases hlf : lateF P o with
    | some x =>
      -- a late block
      have hB : isB P o = true := by unfold isB; rw [hlf]
      obtain ⟨b, hb⟩ := hpre.news i o ho' (.inr hB)
      rw [hab] at hb; cases hb
      have hr := hpre.range i b hab
      have hbn := h8 i b hnl hab
      have hw := isB_isW hB
      rw [← stepD_congr hlook] at t9
      rcases stepLate_inv hlf t9 with ⟨g1, g2, g3⟩ | ⟨g1, sx, g2, g3, g4, g5⟩
      · rw [if_neg (by rw [wantedC_sound g1 h5]; simp)]
        refine fin undef w ρ c s M (by rw [g2]; exact .undef) (fun _ _ h => h) (hsame hw) h3 h4 h6 h7 (fun j b' hj hb' => (hunl j b' hj hb').2) ⟨h9.next, fun j t' b' y hj ht' hb' ha hy => ?_, h9.old⟩
        by_cases hji : j = i
        · subst hji; rw [hab] at ha; cases ha; rw [hbn] at hy; cases hy
        · exact h9.late j t' b' y (hlate j hj hji) ht' hb' ha hy
      · rw [if_pos (wantedC_sound g1 h5)]
        obtain ⟨e, len, z, ps⟩ := x
        obtain ⟨l, l1, l2⟩ := late_run hlf h5 g2
        have hcont : t.s1.mem.get b = some (.cells sx e false) := by rw [g5]; exact PT.get_put_same _ _ _
        -- what the base has there
        have hbase : (c < cnt P ops.toList i → s.mem.get b = none) ∧ (¬ c < cnt P ops.toList i → s.mem.get b = some (.cells sx e false)) := by
          constructor
          · intro hcl
            obtain ⟨d, od, d1, d2, d3, d4⟩ := cnt_onto (P := P) (l := ops.toList) i (Nat.le_of_lt (by simpa using hin)) c hcl
            obtain ⟨td, _, e1, _, e2, _, e3, e4, e5, _⟩ := op_at hpre htr d2
            have hdl : ¬ Lst listed d := fun hh => by have := (h2 d od d2 d3).1 hh; omega
            have a1 : isAnc ops ops.size d i = false := by
              cases hh : isAnc ops ops.size d i with
              | false => rfl
              | true => have := anc_lt hst _ _ _ hh; omega
            have a2 : isAnc ops ops.size i d = false := by
              cases hh : isAnc ops ops.size i d with
              | false => rfl
              | true => exact absurd (hanc d hh) hdl
            exact (hlt i t b t1 (by rw [t3]; exact hB) hab d td e1 (by rw [e3]; exact d3) a1 a2).1 d1 s (by rw [e5, d4]; exact h4)
          · intro hcl
            obtain ⟨sj, j1, j2⟩ := late_chain hpre htr t1 (by rw [t3]; exact hB) hab
            have key : ∀ m s', cnt P ops.toList i + m ≤ c → (ch ++ [stf])[cnt P ops.toList i + m]? = some s' → s'.mem.get b = some (.cells sx e false) := by
              intro m
              induction m with
              | zero => intro s' _ hs'; rw [Nat.add_zero, j1] at hs'; cases hs'; rw [j2, hcont]
              | succ m ih =>
                intro s' hm hs'
                have hlen := (List.getElem?_eq_some_iff.1 hs').1
                obtain ⟨s0, hs0⟩ : ∃ s0, (ch ++ [stf])[cnt P ops.toList i + m]? = some s0 := ⟨_, List.getElem?_eq_getElem (by omega)⟩
                have hcl2 : cnt P ops.toList i + m < cnt P ops.toList ops.toList.length := by rw [← chl_eq hpre htr]; omega
                obtain ⟨d, od, d1, d2, d3, d4⟩ := cnt_onto (P := P) (l := ops.toList) ops.toList.length (Nat.le_refl _) _ hcl2
                obtain ⟨td, _, e1, _, e2, _, e3, e4, e5, _⟩ := op_at hpre htr d2
                have hdl : Lst listed d := (h2 d od d2 d3).2 (by omega)
                have hid : i < d := by
                  rcases Nat.lt_trichotomy i d with hh | hh | hh
                  · exact hh
                  · subst hh; exact absurd hdl hnl
                  · have := cnt_succ (P := P) d2
                    rw [d3] at this
                    simp only [if_true] at this
                    have := cnt_mono (P := P) (l := ops.toList) (show d + 1 ≤ i by omega)
                    omega
                have a1 : isAnc ops ops.size d i = false := by
                  cases hh : isAnc ops ops.size d i with
                  | false => rfl
                  | true => exact absurd (hanc' i d hh hdl) hnl
                have a2 : isAnc ops ops.size i d = false := by
                  cases hh : isAnc ops ops.size i d with
                  | false => rfl
                  | true => have := anc_lt hst _ _ _ hh; omega
                rw [(hlt i t b t1 (by rw [t3]; exact hB) hab d td e1 (by rw [e3]; exact d3) a1 a2).2 hid s0 s' (by rw [e5, d4]; exact hs0) (by rw [e5, d4]; exact hs')]
                exact ih s0 (by omega) hs0
            have hci := key (c - cnt P ops.toList i) s (by omega) (by rw [show cnt P ops.toList i + (c - cnt P ops.toList i) = c by omega]; exact h4)
            exact hci
        obtain ⟨M2, m1, m2⟩ := overlay M (fun _ => some (.cells sx e false)) [b]
        have m3 : ∀ q x, ρ q = some x → M2.mem.get q = M.mem.get q := fun q x hx => by
          rw [m2, if_neg (fun e => by have := List.mem_singleton.1 e; subst this; rw [hbn] at hx; cases hx)]
        have m4 : M2.mem.get b = some (.cells sx e false) := by rw [m2, if_pos (by simp)]
        have hA2 := (h6.silent m3 m1).come m4 hbn (by rw [m1, h9.next]; omega) l1 (by omega)
        have hq : ∀ q, q ≠ b → ρ.set b (w.heap.size, l.length) q = ρ q := fun q hq => Ren.set_ne _ _ _ _ hq
        unfold Oper.wp
        rw [l2 w]
        refine fin (.slice (some ⟨w.heap.size, 0, none⟩) len len) _ (ρ.set b (w.heap.size, l.length)) c s M2 (by rw [g4]; exact .slice _ _ _ _ _ _ (Ren.set_same ρ b _)) (fun q x hx => by rw [hq q (fun e => by subst e; rw [hbn] at hx; cases hx)]; exact hx) (hsame hw) h3 h4 hA2 h7 (fun j b' hj hb' => ?_) ⟨by rw [m1]; exact h9.next, fun j t' b' y hj ht' hb' ha hy => ?_, fun q y hy hno => ?_⟩
        · obtain ⟨k1, k2⟩ := hunl j b' hj hb'
          rw [hq b' (fun e => k1 (hpre.uniq j i b' hb' (by rw [e]; exact hab)))]
          exact k2
        · by_cases hji : j = i
          · subst hji; rw [hab] at ha; cases ha; rw [t1] at ht'; cases ht'
            exact ⟨g3, fun hcj => ⟨by rw [m4, hcont], hbase.1 hcj⟩⟩
          · have hne : b' ≠ b := fun e => hji (hpre.uniq j i b' ha (by rw [e]; exact hab))
            rw [hq b' hne] at hy
            obtain ⟨k1, k2⟩ := h9.late j t' b' y (hlate j hj hji) ht' hb' ha hy
            exact ⟨k1, fun hcj => by rw [m3 b' y hy]; exact k2 hcj⟩
        · by_cases e' : q = b
          · subst e'
            rw [m4, hbase.2 (hno i t hab t1 (by rw [t3]; exact hB))]
          · rw [hq q e'] at hy
            rw [m3 q y hy]
            exact h9.old q y hy hno
    | none =>
      have hB : isB P o = false := by unfold isB; rw [hlf]
      have hwr : WR ρ s w := h6.wr.sub (h9.sub h8) h9.next.symm
      cases hw : isW P o with
      | true =>
        -- a writer
        have hle : ¬ cnt P ops.toList i < c := fun hh => hnl ((h2 i o ho' hw).2 hh)
        have hcw : c = cnt P ops.toList i := by
          by_cases hlt : c < cnt P ops.toList i
          · have hil : i ≤ ops.toList.length := by simp; omega
            obtain ⟨j, oj, g1, g2, g3, g4⟩ := cnt_onto (P := P) (l := ops.toList) i hil c hlt
            have := (h2 j oj g2 g3).1 (hanc j (hst.s4 i j o oj ho' g2 g1 hw g3))
            omega
          · omega
        subst hcw
        have hts := t10 hw
        rw [h4] at hts; cases hts
        rw [← stepD_congr hlook] at t9
        obtain ⟨_, hsc⟩ := stepC_of_stepD hnew hlf t9
        have hcs := cnt_succ (P := P) ho'
        rw [hw] at hcs
        simp only [if_true] at hcs
        have hil : i < ops.toList.length := by simpa using hin
        obtain ⟨k2, n1, n2, n3, n4, n5, n6⟩ := next_at hpre htr (ops.toList.length - (i + 1)) (i + 1) (by omega)
        rw [hcs] at n5
        obtain ⟨gn, gm⟩ := gap hpre htr n1 n2 n3
        have hps : preS trs stf (i + 1) = t.s1 := (htr.nxt i t t1).symm
        rw [hps] at gn gm
        -- late blocks beyond the next writer are not there yet
        have hfar : ∀ q j t' x, Lst listed j → trs[j]? = some t' → isB P t'.o = true → as[j]? = some (some q) → ρ q = some x → k2 < j → (preS trs stf k2).mem.get q = none := by
          intro q j t' x j1 j2 j3 j4 j5 j6
          rcases n6 with e | ⟨od, e1, e2⟩
          · have := (List.getElem?_eq_some_iff.1 j2).1
            rw [trs_len hpre htr] at this; omega
          · obtain ⟨td, _, d1, _, d2, _, d3, d4, d5, _⟩ := op_at hpre htr e1
            have hdl : ¬ Lst listed k2 := fun hh => by have := (h2 k2 od e1 e2).1 hh; omega
            have a1 : isAnc ops ops.size k2 j = false := by
              cases hh : isAnc ops ops.size k2 j with
              | false => rfl
              | true => have := anc_lt hst _ _ _ hh; omega
            have a2 : isAnc ops ops.size j k2 = false := by
              cases hh : isAnc ops ops.size j k2 with
              | false => rfl
              | true => exact absurd (hanc' k2 j hh j1) hdl
            exact (hlt j t' q j2 j3 j4 k2 td d1 (by rw [d3]; exact e2) a1 a2).1 j6 _ (by rw [d5, n4, hcs]; exact n5)
        have hpos : ∀ {j : Nat} {t' : TR}, trs[j]? = some t' → isB P t'.o = true → cnt P ops.toList i < cnt P ops.toList j → i + 1 ≤ j := by
          intro j t' _ _ j3
          rcases Nat.lt_or_ge i j with hh | hh
          · omega
          · have := cnt_mono (P := P) (l := ops.toList) hh; omega
        have hnoW : ∀ {j : Nat} {t' : TR}, trs[j]? = some t' → isB P t'.o = true → j ≠ k2 := by
          intro j t' j1 j2 e
          subst e
          rcases n6 with e | ⟨od, e1, e2⟩
          · have := (List.getElem?_eq_some_iff.1 j1).1
            rw [trs_len hpre htr] at this; omega
          · have := tr_at hpre htr j1
            rw [e1] at this; cases this
            rw [isB_isW j2] at e2; cases e2
        refine stepC_sound hc hsc hwr h5 fun v' w' ρ' hv hA => ?_
        have hnone : ∀ q, LateAt P ops as trs listed (cnt P ops.toList i) ρ q → t.s1.mem.get q = none := by
          rintro q ⟨j, t', x, j1, j2, j3, j4, j5, j6⟩
          have hij := hpos j2 j3 j5
          rcases Nat.lt_or_ge j k2 with hjk | hjk
          · have hg := (gap hpre htr (k := i + 1) (k' := j) hij (by omega) (fun j' o' q1 q2 => n3 j' o' q1 (by omega))).2 q (fun j' t'' q1 q2 q3 q4 q5 => by have := hpre.uniq j j' q j4 q5; omega)
            rw [hps] at hg
            rw [← hg]
            have : preS trs stf j = t'.s := by unfold preS; rw [j2]
            rw [this]
            exact (h9.late j t' q x j1 j2 j3 j4 j6).1
          · rw [← gm q fun j' t'' q1 q2 q3 q4 q5 => by have := hpre.uniq j j' q j4 q5; omega]
            exact hfar q j t' x j1 j2 j3 j4 j6 (by have := hnoW j2 j3; omega)
        obtain ⟨M1, b1, b2, b3⟩ := h9.step h8 h6 hA hnone
        -- the base goes on to the next writer
        have hdom : ∀ q j, as[j]? = some (some q) → ρ q = none → ρ' q = none := fun q j hj hq => hA.dom q (by have := hpre.range j q hj; omega) hq
        have hback : ∀ q j x, as[j]? = some (some q) → ρ' q = some x → ∃ y, ρ q = some y := fun q j x hj hx => by
          cases hq : ρ q with
          | some y => exact ⟨y, rfl⟩
          | none => rw [hdom q j hj hq] at hx; cases hx
        obtain ⟨M2, m1, m2⟩ := overlay (preS trs stf k2) (fun q => if LateAt P ops as trs listed (cnt P ops.toList i + 1) ρ q then M.mem.get q else (preS trs stf k2).mem.get q) (as.filterMap id)
        have m3 : ∀ q, M2.mem.get q = if LateAt P ops as trs listed (cnt P ops.toList i + 1) ρ q then M.mem.get q else (preS trs stf k2).mem.get q := by
          intro q
          rw [m2]
          by_cases hq : q ∈ as.filterMap id
          · rw [if_pos hq]
          · rw [if_neg hq, if_neg]
            rintro ⟨j, t, x, _, _, _, k1, _⟩
            exact hq (List.mem_filterMap.2 ⟨some q, List.mem_of_getElem? k1, rfl⟩)
        have hA2 : After ρ0 stA w0 ρ' M2 w' := by
          refine b1.silent (fun q x hx => ?_) (by rw [m1, b2, gn])
          rw [m3, b3]
          by_cases hq : ∃ (j : Nat) (t' : TR), as[j]? = some (some q) ∧ trs[j]? = some t' ∧ isB P t'.o = true
          · obtain ⟨j, t', j1, j2, j3⟩ := hq
            obtain ⟨y, hy⟩ := hback q j x j1 hx
            have hlj : Lst listed j := Classical.byContradiction fun hh => by rw [h8 j q hh j1] at hy; cases hy
            have same : ∀ (d : Nat), LateAt P ops as trs listed d ρ q ↔ d < cnt P ops.toList j := fun d => by
              constructor
              · rintro ⟨j', t'', y', _, _, _, q1, q2, _⟩
                rw [← hpre.uniq j' j q q1 j1]; exact q2
              · exact fun hd => ⟨j, t', y, hlj, j2, j3, j1, hd, hy⟩
            by_cases c1 : cnt P ops.toList i + 1 < cnt P ops.toList j
            · rw [if_pos ((same _).2 c1), if_pos ((same _).2 (by omega))]
            · rw [if_neg (fun hh => c1 ((same _).1 hh))]
              by_cases c2 : cnt P ops.toList i < cnt P ops.toList j
              · rw [if_pos ((same _).2 c2), ((h9.late j t' q y hlj j2 j3 j1 hy).2 c2).1]
                obtain ⟨sj, s1, s2⟩ := late_chain hpre htr j2 j3 j1
                rw [show cnt P ops.toList j = cnt P ops.toList i + 1 by omega, n5] at s1
                cases s1; exact s2
              · rw [if_neg (fun hh => c2 ((same _).1 hh)), gm q]
                intro j' t'' q1 q2 q3 q4 q5
                have := hpre.uniq j j' q j1 q5
                subst this
                have := cnt_mono (P := P) (l := ops.toList) q1
                omega
          · have no : ∀ (d : Nat), ¬ LateAt P ops as trs listed d ρ q := fun d => by
              rintro ⟨j, t', y, _, q1, q2, q3, _⟩
              exact hq ⟨j, t', q3, q1, q2⟩
            rw [if_neg (no _), if_neg (no _), gm q]
            exact fun j t' _ _ q1 q2 q3 => hq ⟨j, t', q3, q1, q2⟩
        refine fin v' w' ρ' (cnt P ops.toList i + 1) (preS trs stf k2) M2 hv hA.ext (fun j oj g1 g2 => ?_) ?_ n5 hA2 (by rw [gn]; exact Nat.le_trans h7 hA.next) (fun j b' hj hb' => hdom b' j hb' (hunl j b' hj hb').2) ⟨m1, fun j t' b' x hj ht' hb' ha hx => ?_, fun q x hx hno => ?_⟩
        · by_cases hji : j = i
          · subst hji; simp
          · have hne : cnt P ops.toList j ≠ cnt P ops.toList i := by
              rcases Nat.lt_or_ge j i with hlt | hge
              · have := cnt_succ (P := P) g1
                rw [g2] at this
                simp only [if_true] at this
                have h' := cnt_mono (P := P) (l := ops.toList) (show j + 1 ≤ i by omega)
                omega
              · have h' := cnt_mono (P := P) (l := ops.toList) (show i + 1 ≤ j by omega)
                omega
            rw [h2 j oj g1 g2]
            constructor
            · rintro (e | e)
              · exact absurd e hji
              · omega
            · intro e; right; omega
        · rw [chl_eq hpre htr, ← hcs]; exact cnt_mono (by omega)
        · have hji : j ≠ i := fun e => by subst e; rw [t1] at ht'; cases ht'; rw [t3, hB] at hb'; cases hb'
          obtain ⟨y, hy⟩ := hback b' j x ha hx
          have hlj := hlate j hj hji
          obtain ⟨q1, q2⟩ := h9.late j t' b' y hlj ht' hb' ha hy
          refine ⟨q1, fun hcj => ⟨?_, ?_⟩⟩
          · rw [m3, if_pos ⟨j, t', y, hlj, ht', hb', ha, hcj, hy⟩]
            exact (q2 (by omega)).1
          · have hij := hpos ht' hb' (by omega)
            refine hfar b' j t' y hlj ht' hb' ha hy ?_
            rcases Nat.lt_or_ge k2 j with hh | hh
            · exact hh
            · have := cnt_mono (P := P) (l := ops.toList) hh
              rw [n4, hcs] at this; omega
        · rw [m3, if_neg]
          rintro ⟨j, t', y, _, q1, q2, q3, q4, _⟩
          exact hno j t' q3 q1 q2 q4
      | false =>
        -- a reader
        have huj : ∀ u ∈ trs, u.w = true → ∃ j oj, ops.toList[j]? = some oj ∧ isW P oj = true ∧ u.i = j ∧ u.c = cnt P ops.toList j := by
          intro u hu huw
          obtain ⟨j, hj, rfl⟩ := List.getElem_of_mem hu
          have hoj := tr_at hpre htr (List.getElem?_eq_getElem hj)
          obtain ⟨tj, _, g1, _, g2, _, _, g3, g4, _⟩ := op_at hpre htr hoj
          rw [List.getElem?_eq_getElem hj] at g1; cases g1
          exact ⟨j, _, hoj, by rw [← g3]; exact huw, g2, g4⟩
        have hstep : ∃ s1, stepD P call ops ab o fr s = .ok t.v s1 := by
          rw [stepD_congr hlook]
          rcases hdy i t t1 (by rw [t3]; exact hw) (by rw [t3]; exact hB) c s h4 with ⟨u, g1, g2, g3, g4⟩ | ⟨u, g1, g2, g3, g4⟩ | ⟨s2, g⟩
          · obtain ⟨j, oj, k1, k2, k3, k4⟩ := huj u g1 g2
            rw [t2, k3] at g4
            exact absurd (hanc' i j g4 ((h2 j oj k1 k2).2 (by omega))) hnl
          · obtain ⟨j, oj, k1, k2, k3, k4⟩ := huj u g1 g2
            rw [t2, k3] at g4
            have := (h2 j oj k1 k2).1 (hanc j g4)
            omega
          · rw [t3, t2'] at g; exact ⟨s2, g⟩
        obtain ⟨sx, hsx⟩ := hstep
        rw [stepD_still hw hB hsx] at hsx
        obtain ⟨hab0, hsc⟩ := stepC_of_stepD hnew hlf hsx
        refine stepC_sound hc hsc hwr h5 fun v' w' ρ' hv hA => ?_
        have hnone : ∀ q, LateAt P ops as trs listed c ρ q → s.mem.get q = none := by
          rintro q ⟨j, t', x, j1, j2, j3, j4, j5, j6⟩
          exact ((h9.late j t' q x j1 j2 j3 j4 j6).2 j5).2
        obtain ⟨M1, b1, b2, b3⟩ := h9.step h8 h6 hA hnone
        have hdom : ∀ q j, as[j]? = some (some q) → ρ q = none → ρ' q = none := fun q j hj hq => hA.dom q (by have := hpre.range j q hj; omega) hq
        refine fin v' w' ρ' c s M1 hv hA.ext (hsame hw) h3 h4 b1 h7 (fun j b' hj hb' => hdom b' j hb' (hunl j b' hj hb').2) ⟨b2, fun j t' b' x hj ht' hb' ha hx => ?_, fun q x hx hno => ?_⟩
        · have hji : j ≠ i := fun e => by subst e; rw [t1] at ht'; cases ht'; rw [t3, hB] at hb'; cases hb'
          cases hq : ρ b' with
          | none => rw [hdom b' j ha hq] at hx; cases hx
          | some y =>
            have hlj := hlate j hj hji
            obtain ⟨q1, q2⟩ := h9.late j t' b' y hlj ht' hb' ha hq
            refine ⟨q1, fun hcj => ?_⟩
            rw [b3, if_pos ⟨j, t', y, hlj, ht', hb', ha, hcj, hq⟩]
            exact q2 hcj
        · rw [b3, if_neg]
          rintro ⟨j, t', y, _, q1, q2, q3, q4, _⟩
          exact hno j t' q3 q1 q2 q4

theorem draw_any (hc : CallSound P call) (hst : StatP P ops) (hpre : PreOK P ops.toList stA as st0) (htr : TrOK (ops.toList.zip as) P call n ops 0 0 fr0 st0 trs ch frf stf) (hdy : DynP P call ops (ch ++ [stf]) trs) (hlt : LateP P ops as (ch ++ [stf]) trs) : ∀ (fuel : Nat) (listed : Array Bool) (a : Act) (w : World),
    Inv P ops as trs ch stf n ρ0 stA st0 fr0 w0 listed a w → unl ops.size listed ≤ fuel → wpAny P .any ops (Post ρ0 stA w0 n (.norm frf stf)) fuel listed a w := by
  intro fuel
  induction fuel with
  | zero =>
    intro listed a w h hu
    have hr : Region.ready .any ops listed = [] := by
      rw [List.eq_nil_iff_forall_not_mem]
      intro i hi
      obtain ⟨h1, h2, h3⟩ := (ready_iff h.size).1 hi
      have : listed.getD i true = false := by
        have e : listed.getD i false = listed.getD i true := by simp [h.size, h1]
        unfold Lst at h2; rw [e] at h2; simpa using h2
      have := unl_set h1 h.size this
      omega
    exact ⟨hr, h.done hpre htr (all_listed hst h.size hr)⟩
  | succ fuel ih =>
    intro listed a w h hu
    refine ⟨fun hr => h.done hpre htr (all_listed hst h.size hr), fun i hi => h.step hc hst hpre htr hdy hlt hi fun a' w' h' => ih _ a' w' h' ?_⟩
    obtain ⟨h1, h2, h3⟩ := (ready_iff h.size).1 hi
    have : listed.getD i true = false := by
      have e : listed.getD i false = listed.getD i true := by simp [h.size, h1]
      unfold Lst at h2; rw [e] at h2; simpa using h2
    have := unl_set h1 h.size this
    omega

open Classical in
/-- A region that draws, by what is true of it. -/
noncomputable def runDraw2 (P : Program) : DrawF := fun call n ops fr st => preA P ops.toList st fun as st1 => match trace P call n ops (ops.toList.zip as) 0 0 fr st1 with
  | some r => if StatP P ops ∧ DynP P call ops (r.2.1 ++ [r.2.2.2]) r.1 ∧ LateP P ops as (r.2.1 ++ [r.2.2.2]) r.1 then .norm r.2.2.1 r.2.2.2 else .bad
  | none => .bad
theorem runDraw2_sound (hm : P.follows .mixedOrders = true) : DrawSound P (runDraw2 P) := by
  intro call n hc id ops fr st ρ a w hb hw hf hn hd
  unfold runDraw2 at hb ⊢
  obtain ⟨as, st1, hpre, hk⟩ := preA_ok (P := P) ops.toList st
  rw [hk] at hb
  rw [hk]
  have hmap : (ops.toList.zip as).map (·.1) = ops.toList := List.map_fst_zip (by rw [hpre.len]; exact Nat.le_refl _)
  cases ht : trace P call n ops (ops.toList.zip as) 0 0 fr st1 with
  | none => rw [ht] at hb; exact absurd rfl hb
  | some r =>
    obtain ⟨trs, ch, frf, stf⟩ := r
    rw [ht] at hb
    dsimp only at hb ⊢
    split at hb
    · rename_i hdy
      rw [if_pos hdy]
      obtain ⟨hst, hdy, hlt⟩ := hdy
      have htr := trace_ok ht (by rw [hmap]; exact hst.s3)
      have hpa := hpre.after ρ w hw
      refine wp_region_any hm ?_
      refine draw_any (w0 := w) hc hst hpre htr hdy hlt _ _ _ _ ?_ ?_
      · have hno : ∀ i, ¬ Lst (Array.replicate ops.size false) i := fun i hi => by
          unfold Lst at hi
          simp only [Array.getD_eq_getD_getElem?, Array.getElem?_replicate] at hi
          split at hi <;> cases hi
        have hpn : ∀ (j : Nat) (b : Bp), as[j]? = some (some b) → ρ b = none := fun j b hb => by
          have := hpre.range j b hb
          cases hh : ρ b with
          | none => rfl
          | some x => have := hw.fresh b x hh; omega
        obtain ⟨k2, n1, n2, n3, n4, n5, n6⟩ := next_at hpre htr ops.toList.length 0 (by omega)
        obtain ⟨gn, gm⟩ := gap hpre htr n1 n2 n3
        have hf0 : preS trs stf 0 = st1 := htr.fst
        rw [hf0] at gn gm
        have hc0 : cnt P ops.toList 0 = 0 := rfl
        rw [hc0] at n5
        have hkn : ∀ q x, ρ q = some x → (preS trs stf k2).mem.get q = st1.mem.get q := fun q x hx => gm q fun j t _ _ _ _ q5 => by rw [hpn j q q5] at hx; cases hx
        exact ⟨by simp, fun i hi => absurd hi (hno i), fun i hi => absurd hi (hno i), ⟨fr, 0, ρ, preS trs stf k2, preS trs stf k2, ⟨fun j o d t hj => absurd hj (hno j), fun p _ => rfl⟩, fun j o _ _ => ⟨fun hh => absurd hh (hno j), fun hh => absurd hh (Nat.not_lt_zero _)⟩, Nat.zero_le _, n5, hf, (hpa.trans (After.draw hpa.wr _)).silent hkn gn, by rw [gn]; exact Nat.le_refl _, fun j b _ hb => hpn j b hb,
          ⟨rfl, fun j t b x hj => absurd hj (hno j), fun q x _ _ => rfl⟩⟩, hn, hd⟩
      · unfold unl
        exact Nat.le_trans List.countP_le_length (by simp)
    · exact absurd rfl hb
end
end Sim
