import Derived.Test.YtpinmfjiiapgfaaGreatDoorSimD
import Derived.Lib.Overlaps
import Derived.Laws.Externs
import Derived.Lib.SlKeysI
import Derived.Shelf.SlIterI.Collect
import Derived.Maps.RangeRun
import Derived.Laws.IdiomRangeMap
/- Sim, part 40: functions that are asked by contracts of their own: slices.overlaps, slices.Insert. -/
namespace Sim
open Go

/- slices.overlaps at slices in two blocks -/
noncomputable def ovG : FunX := fun _ args st =>
  match args with
  | [.slice bx _ _ _ _, .slice by' _ _ _ _] => bsel (bpEq bx by') .bad
      (match st.mem.get bx, st.mem.get by' with
      | some (.cells _ _ g), some (.cells s _ _) => bsel g .bad (bsel (Nat.ble 1 s.size) (.ok (.bool false) st) .bad)
      | _, _ => .bad)
  | _ => .bad
/-- f is slices.overlaps at slices of one type. -/
structure OvFn (P : Program) (f : Nat) : Prop where
  out : ∃ (tS tR e : TypeId) (size : Nat), P.underlying tS = some (.slice e) ∧ (∀ w, (Go.sizeOf e).run P w = .ok size w) ∧
    ∀ (args : Array Value) (w : World), (callFunc f args).run P w = ((Extern.SlicesOverlaps.overlaps #[tS, tS] #[tR] args).run P w).andThen fun v w' => .ok (.value v) w'
theorem ovG_sound {P : Program} {f : Nat} (hf : OvFn P f) (call : CallF) (args : List CV) (st : St) (v : CV) (st' : St) (h : ovG call args st = .ok v st') : CallOut P f args st v st' := by
  obtain ⟨tS, tR, e, size, h1, h2, h3⟩ := hf.out
  unfold ovG at h
  split at h
  · rename_i bx ox lx cx gx by' oy ly cy gy
    rw [bsel_eq] at h
    split at h
    · cases h
    · rename_i hne
      split at h
      · rename_i s1 t1 g s2 t2 g2 m1 m2
        rw [bsel_eq] at h
        split at h
        · cases h
        · rename_i hg
          have hg : g = false := by simpa using hg
          subst hg
          simp only [bsel_eq, Nat.ble_eq] at h
          split at h
          · rename_i hs
            cases h
            refine .inr ⟨rfl, fun ρ w args' hw ha => ?_⟩
            obtain ⟨x', t', e1, hx, ha2⟩ := ha.inv
            obtain ⟨y', t2', e2, hy, ha3⟩ := ha2.inv
            have e3 : t2' = [] := by have := ha3.len; simpa using this.symm
            subst e3; subst e2
            have e4 : args' = #[x', y'] := by rw [← Array.toArray_toList (xs := args'), e1]
            subst e4
            obtain ⟨r1, z1, o1, k1, rfl, hr1, _⟩ := hx.slice_inv
            obtain ⟨r2, z2, o2, k2, rfl, hr2, _⟩ := hy.slice_inv
            obtain ⟨c1, lo1, hi1, a1, a2, a3, a4, a5⟩ := hw.row m1 hr1
            obtain ⟨c2, lo2, hi2, b1, b2, b3, b4, b5⟩ := hw.row m2 hr2
            have hfz := hw.rowG m1 hr1 a1 rfl
            have hrr : r1 ≠ r2 := fun e => hne (bpEq_iff.2 (hw.inj bx by' _ _ r1 z1 z2 m1 m2 hr1 (by rw [e]; exact hr2)))
            refine ⟨.bool false, ?_, .bool false⟩
            rw [h3, Lib.run_overlaps_apart w tS tR e h1 size h2 ⟨r1, o1, none⟩ ⟨r2, o2, none⟩ lx k1 ly k2 hrr t1 t2 c1.size c2.size (by simp [World.shape?, a1]) (by simp [World.shape?, b1]) (by omega)
              (by simp only [World.frozen?, a1]; have := hfz o1; simp; omega) (by simp only [World.frozen?, a1]; have := hfz c1.size; simp; omega)]
            rfl
          · cases h
      · cases h
  · cases h

/- slices.Insert of one element into a slice of unknown capacity -/
noncomputable def smallM (b vb : Bp) (x y : Option Blk) (st : St) : St := ⟨(PT.nil.put b x).put vb y, st.next⟩
noncomputable def insOK (b vb : Bp) (n grow : Nat) (vblk : Option Blk) (st : St) (ra rb : OR) : OR :=
  match ra, rb with
  | .ok (.slice nb 0 n1 c1 g1) stA, .ok (.slice b2 0 n2 c2 g2) stB =>
    (match stA.mem.get nb, stB.mem.get b2 with
    | some (.cells R e true), some (.cells RB eB _) =>
      bsel (Bool.and (bpEq nb st.next) (Bool.and (Nat.beq n1 (Nat.succ n)) (Bool.and (Nat.beq g1 grow) (Bool.and (bpEq b2 b) (Bool.and (Nat.beq n2 (Nat.succ n)) (Bool.and (Nat.ble (Nat.succ n) c2) (Bool.and (Nat.beq g2 grow)
        (Bool.and (Nat.beq c1 (Nat.succ n)) (Bool.and (Nat.beq e eB) (Bool.and (bpEq stA.next st.next.succ) (Bool.and (bpEq stB.next st.next) (Bool.and (blkE (stA.mem.get vb) vblk) (Bool.and (blkE (stB.mem.get vb) vblk) (bpEq b2 b))))))))))))))
        (match RB.extract 0 (Nat.mul (Nat.succ n) grow) with
        | some R2 => bsel (segE R2 R) (.ok (.slice st.next 0 (Nat.succ n) (Nat.succ n) grow) ⟨(st.mem.put b none).put st.next (some (.cells R e true)), st.next.succ⟩) .bad
        | none => .bad) .bad
    | _, _ => .bad)
  | _, _ => .bad
noncomputable def insG (F : FunX) : FunX := fun call args st =>
  match args with
  | [.slice b 0 n cap (.succ grow), .int .i64 i, .slice vb voff m vc vg] =>
    bsel (Bool.and (Nat.beq cap n) (Bool.and (Bool.and (zlt i (.ofNat n)) (Nat.ble 1 n)) (Bool.and (Nat.beq m 1) (Bool.not (bpEq b vb)))))
      (forceN (Nat.succ grow) fun grow => forceN (Nat.succ n) fun n1 => PT.force (smallM b vb (st.mem.get b) (st.mem.get vb) st).mem fun sm => 
        insOK b vb n grow (st.mem.get vb) st (F call [.slice b 0 n n 0, .int .i64 i, .slice vb voff m vc vg] ⟨sm, st.next⟩) (F call [.slice b 0 n n1 grow, .int .i64 i, .slice vb voff m vc vg] ⟨sm, st.next⟩))
      (F call args st)
  | _ => F call args st

section
variable {P : Program} {f : Nat} {call : CallF} {st : St}
open Classical in
theorem PT.get_two (b vb q : Bp) (x y : Option Blk) : ((PT.nil.put b x).put vb y).get q = if q = vb then y else if q = b then x else none := by
  rw [PT.get_put, PT.get_put, PT.get_nil]
open Classical in
theorem insOK_sound {b vb : Bp} {n grow : Nat} {i : Int} {voff m vc vg : Nat} {ra rb : OR} (hb : b ≠ vb) (hn : 1 ≤ n) (hg : 1 ≤ grow)
    (hA : ∀ v s, ra = .ok v s → callable P f = true ∧ CallOK P f [.slice b 0 n n 0, .int .i64 i, .slice vb voff m vc vg] (smallM b vb (st.mem.get b) (st.mem.get vb) st) v s)
    (hB : ∀ v s, rb = .ok v s → callable P f = true ∧ CallOK P f [.slice b 0 n (n + 1) grow, .int .i64 i, .slice vb voff m vc vg] (smallM b vb (st.mem.get b) (st.mem.get vb) st) v s)
    {v : CV} {st' : St} (h : insOK b vb n grow (st.mem.get vb) st ra rb = .ok v st') : callable P f = true ∧ CallOK P f [.slice b 0 n n grow, .int .i64 i, .slice vb voff m vc vg] st v st' := by
  unfold insOK at h
  split at h
  · rename_i nb n1 c1 g1 stA b2 n2 c2 g2 stB
    split at h
    · rename_i R et RB eB gB mA mB
      simp only [bsel_eq, Bool.and_eq_true, bpEq_iff, Nat.beq_eq, Nat.ble_eq] at h
      split at h
      · rename_i hh
        obtain ⟨rfl, rfl, rfl, rfl, rfl, d6, rfl, rfl, rfl, d10, d11, d12, d13, _⟩ := hh
        have d12 := blkE_sound d12
        have d13 := blkE_sound d13
        split at h
        · rename_i R2 hR2
          split at h
          · rename_i hseg
            have := segE_sound hseg
            subst this
            cases h
            obtain ⟨ca, okA⟩ := hA _ _ rfl
            obtain ⟨_, okB⟩ := hB _ _ rfl
            refine ⟨ca, ?_⟩
            intro ρ w args' hw ha
            obtain ⟨s', t', e1, hs, ha2⟩ := ha.inv
            obtain ⟨r, sz, off', cap', rfl, hr, q1, q2, q3, q4⟩ := hs.slice_inv
            have ho : off' = 0 := q1 (by omega)
            subst ho
            obtain ⟨q5, _⟩ := q4 (by omega)
            have hsm : ∀ q, (smallM b2 vb (st.mem.get b2) (st.mem.get vb) st).mem.get q = if q = vb then st.mem.get vb else if q = b2 then st.mem.get b2 else none := fun q => PT.get_two b2 vb q _ _
            have hsub : ∀ q x, ρ q = some x → (smallM b2 vb (st.mem.get b2) (st.mem.get vb) st).mem.get q = st.mem.get q ∨ (smallM b2 vb (st.mem.get b2) (st.mem.get vb) st).mem.get q = none := fun q x _ => by
              rw [hsm]
              by_cases e1 : q = vb
              · subst e1; rw [if_pos rfl]; exact .inl rfl
              · rw [if_neg e1]
                by_cases e2 : q = b2
                · subst e2; rw [if_pos rfl]; exact .inl rfl
                · rw [if_neg e2]; exact .inr rfl
            have hws : WR ρ (smallM b2 vb (st.mem.get b2) (st.mem.get vb) st) w := hw.sub hsub rfl
            have hbn : b2 ≠ st.next := fun e => by have := hw.fresh b2 _ hr; rw [e] at this; omega
            by_cases hcap : cap' = n
            · -- no room
              subst hcap
              have hs' : VR ρ (.slice b2 0 cap' cap' 0) (.slice (some ⟨r, 0, none⟩) cap' cap') := .slice _ _ _ _ r sz hr
              refine (okA ρ w args' hws (by rw [e1]; exact VRs.cons hs' ha2)).mono ?_
              rintro ee w' ⟨v', ρ', rfl, hv, hAf⟩
              refine ⟨v', ρ', rfl, hv, ?_⟩
              have hfr : After ρ st w ρ' ⟨(st.mem.put b2 (stA.mem.get b2)).put st.next (some (.cells R2 et true)), st.next.succ⟩ w' := by
                refine After.frame (s := smallM b2 vb (st.mem.get b2) (st.mem.get vb) st) hw rfl hsub hAf d10.symm fun q x hx => ?_
                show ((st.mem.put b2 (stA.mem.get b2)).put st.next _).get q = _ ∨ _
                rw [PT.get_put, PT.get_put]
                by_cases f1 : q = st.next
                · subst f1; rw [if_pos rfl]; exact .inl mA.symm
                · rw [if_neg f1]
                  by_cases f2 : q = b2
                  · subst f2; rw [if_pos rfl]; exact .inl rfl
                  · rw [if_neg f2]
                    by_cases f3 : q = vb
                    · subst f3; exact .inl d12.symm
                    · right
                      refine ⟨?_, by rw [hsm, if_neg f3, if_neg f2], ?_⟩
                      · cases hq : ρ q with
                        | some y => exact ⟨y, rfl⟩
                        | none =>
                          have hlt := hAf.wr.fresh q x hx
                          rw [d10, Bp.dec_succ] at hlt
                          have : q.dec ≠ st.next.dec := fun e => f1 (Bp.dec_inj _ _ e)
                          have := hAf.dom q (by show q.dec < st.next.dec; omega) hq
                          rw [this] at hx; cases hx
                      · rfl
              refine (hfr.trans (After.drop hfr.wr b2)).silent (fun q x hx => ?_) rfl
              show ((st.mem.put b2 none).put st.next _).get q = (((st.mem.put b2 (stA.mem.get b2)).put st.next _).put b2 none).get q
              rw [PT.get_put, PT.get_put, PT.get_put, PT.get_put, PT.get_put]
              by_cases f1 : q = st.next
              · subst f1
                rw [if_pos rfl, if_pos rfl, if_neg (fun e => hbn e.symm)]
              · rw [if_neg f1, if_neg f1]
                by_cases f2 : q = b2
                · rw [if_pos f2, if_pos f2]
                · rw [if_neg f2, if_neg f2, if_neg f2]
            · -- there is room
              have hs' : VR ρ (.slice b2 0 n (n + 1) g2) (.slice (some ⟨r, 0, none⟩) n cap') := .sliceG _ _ 0 _ _ cap' g2 r sz hr (by omega) (by omega) (by omega) (fun _ => rfl) (by simpa using q5)
              refine (okB ρ w args' hws (by rw [e1]; exact VRs.cons hs' ha2)).mono ?_
              rintro ee w' ⟨v', ρ', rfl, hv, hAf⟩
              have hr' := hAf.ext _ _ hr
              obtain ⟨r2, sz2, off2, cap2, rfl, hr2, p1, p2, p3, p4⟩ := hv.slice_inv
              rw [hr'] at hr2; cases hr2
              have ho2 : off2 = 0 := p1 (by omega)
              subst ho2
              obtain ⟨p5, _⟩ := p4 (by omega)
              have hfr : After ρ st w ρ' ⟨st.mem.put b2 (stB.mem.get b2), st.next⟩ w' := by
                refine After.frame (s := smallM b2 vb (st.mem.get b2) (st.mem.get vb) st) hw rfl hsub hAf d11.symm fun q x hx => ?_
                show (st.mem.put b2 (stB.mem.get b2)).get q = _ ∨ _
                rw [PT.get_put]
                by_cases f2 : q = b2
                · subst f2; rw [if_pos rfl]; exact .inl rfl
                · rw [if_neg f2]
                  by_cases f3 : q = vb
                  · subst f3; exact .inl d13.symm
                  · right
                    refine ⟨?_, by rw [hsm, if_neg f3, if_neg f2], ?_⟩
                    · cases hq : ρ q with
                      | some y => exact ⟨y, rfl⟩
                      | none =>
                        have hlt := hAf.wr.fresh q x hx
                        rw [d11] at hlt
                        have := hAf.dom q (by show q.dec < st.next.dec; exact hlt) hq
                        rw [this] at hx; cases hx
                    · rfl
              have hmB : (St.mk (st.mem.put b2 (stB.mem.get b2)) st.next).mem.get b2 = some (.cells RB et gB) := by
                show (st.mem.put b2 (stB.mem.get b2)).get b2 = _
                rw [PT.get_put_same, mB]
              obtain ⟨o, ho1, ho2⟩ := hfr.wr.at' b2 _ r sz hmB hr'
              have hle : ρ'.le (ρ'.set st.next (r, sz)) := fun q x hx => by
                have := hfr.wr.fresh q x hx
                rw [Ren.set_ne _ _ _ _ (fun e => by rw [e] at this; exact absurd this (Nat.lt_irrefl _))]; exact hx
              have hbr : BR (ρ'.set st.next (r, sz)) (.cells R2 et true) o sz := by
                refine BR.mono hle ?_
                cases ho2 with
                | cells _ _ _ c lo hi hlen hc hf hgg =>
                  obtain ⟨x1, x2⟩ := Segs.extract_some hR2
                  have x3 : row R2 = (row RB).take ((n + 1) * g2) := by have := x2 byteV; rw [List.drop_zero] at this; exact this
                  have hsz : R2.size = (n + 1) * g2 := by
                    rw [← row_length, x3, List.length_take, row_length]
                    have : 0 + (n + 1) * g2 ≤ RB.size := x1
                    omega
                  have x1' : (n + 1) * g2 ≤ RB.size := by have : 0 + (n + 1) * g2 ≤ RB.size := x1; omega
                  refine .cells R2 et true c lo hi (by omega) ?_ hf (fun hh => by cases hh)
                  rw [x3, hsz]
                  have := hc.take ((n + 1) * g2)
                  rw [List.take_take, Nat.min_eq_left x1'] at this
                  exact this
              have hmv := After.move hfr.wr hmB hr' ho1 hbr (fun _ _ => rfl) rfl rfl rfl
              refine ⟨_, ρ'.set st.next (r, sz), rfl, ?_, (hfr.trans hmv).silent (fun q x hx => ?_) rfl⟩
              · exact .sliceG _ _ 0 _ _ cap2 g2 r sz (Ren.set_same _ _ _) (by omega) (Nat.le_refl _) (by have : n + 1 ≤ c2 := d6; show n + 1 ≤ cap2; omega) (fun _ => rfl) (by simpa using p5)
              · show ((st.mem.put b2 none).put st.next _).get q = (((st.mem.put b2 (stB.mem.get b2)).put b2 none).put st.next _).get q
                rw [PT.get_put, PT.get_put, PT.get_put, PT.get_put, PT.get_put]
                by_cases f1 : q = st.next
                · rw [if_pos f1, if_pos f1]
                · rw [if_neg f1, if_neg f1]
                  by_cases f2 : q = b2
                  · rw [if_pos f2, if_pos f2]
                  · rw [if_neg f2, if_neg f2, if_neg f2]
          · cases h
        · cases h
      · cases h
    · cases h
  · cases h
theorem insG_sound {F : FunX} (hm : P.follows .mixedOrders = true) (hF : funXK P f = some F) (hc : CallSound P call) (args : List CV) (st : St) (v : CV) (st' : St) (h : insG F call args st = .ok v st') : CallOut P f args st v st' := by
  have plain : ∀ args st v st', F call args st = .ok v st' → callable P f = true ∧ CallOK P f args st v st' := fun args st v st' h => by
    rcases funXK_ok hF call args st with h1 | h1
    · rw [h1] at h; cases h
    · rw [h1] at h
      exact enterC_sound hc (runDraw2_sound hm) h
  left
  unfold insG at h
  split at h
  · rename_i b n cap grow i vb voff m vc vg
    rw [bsel_eq] at h
    split at h
    · rename_i hh
      simp only [Bool.and_eq_true, Nat.beq_eq, Nat.ble_eq, Bool.not_eq_true'] at hh
      obtain ⟨rfl, ⟨_, h2⟩, rfl, h4⟩ := hh
      simp only [forceN_eq, PT.force_eq] at h
      have hbv : b ≠ vb := fun e => by rw [bpEq_iff.2 e] at h4; cases h4
      exact insOK_sound hbv h2 (Nat.succ_le_succ (Nat.zero_le _)) (fun v s hv => plain _ _ v s hv) (fun v s hv => plain _ _ v s hv) h
    · exact plain _ _ _ _ h
  · exact plain _ _ _ _ h
end
end Sim

/- Sim, part 41: slices.Sorted(maps.Keys(m)) at keys that are ints. -/
namespace Sim
open Go Go.Sort

/- numbers, sorted -/
noncomputable def insI1 (x : Int) (l : List Int) : List Int := List.rec (motive := fun _ => List Int) [x] (fun y r ih => bsel (zlt x y) (x :: y :: r) (y :: ih)) l
noncomputable def isortI (l : List Int) : List Int := List.rec (motive := fun _ => List Int) [] (fun x _ ih => insI1 x ih) l
theorem insI1_cons (x y : Int) (r : List Int) : insI1 x (y :: r) = bsel (zlt x y) (x :: y :: r) (y :: insI1 x r) := rfl
theorem insI1_perm (x : Int) : ∀ l : List Int, (insI1 x l).Perm (x :: l) := by
  intro l
  induction l with
  | nil => exact List.Perm.refl _
  | cons y r ih =>
    rw [insI1_cons, bsel_eq]
    split
    · exact List.Perm.refl _
    · exact (ih.cons y).trans (List.Perm.swap x y r)
theorem isortI_perm : ∀ l : List Int, (isortI l).Perm l := by
  intro l
  induction l with
  | nil => exact List.Perm.refl _
  | cons x l ih => exact (insI1_perm x (isortI l)).trans (ih.cons x)
noncomputable def incrI (l : List Int) : Bool := List.rec (motive := fun _ => Bool) true (fun x r ih => Bool.and (List.rec (motive := fun _ => Bool) true (fun y _ _ => zlt x y) r) ih) l
theorem incrI_pair : ∀ l : List Int, incrI l = true → l.Pairwise (· < ·) := by
  intro l
  induction l with
  | nil => intro _; exact List.Pairwise.nil
  | cons x r ih =>
    intro h
    have h : Bool.and (List.rec (motive := fun _ => Bool) true (fun y _ _ => zlt x y) r) (incrI r) = true := h
    rw [Bool.and_eq_true] at h
    have hr := ih h.2
    refine List.Pairwise.cons (fun y hy => ?_) hr
    cases r with
    | nil => cases hy
    | cons z r =>
      have hz : x < z := (zlt_iff x z).1 h.1
      rcases List.mem_cons.1 hy with rfl | hy
      · exact hz
      · exact Int.lt_trans hz (List.rel_of_pairwise_cons hr hy)
theorem isortI_merge {l : List Int} (h : incrI (isortI l) = true) : l.mergeSort leI = isortI l := by
  rw [← mergeSort_of_perm_i (isortI_perm l)]
  refine List.mergeSort_of_pairwise ((incrI_pair _ h).imp fun hab => ?_)
  simp only [leI, decide_eq_true_eq]; omega

/- a map's keys -/
noncomputable def keyN (v : CV) : Option Int := match v with | .int .i64 (.ofNat m) => bsel (Nat.ble m 9223372036854775807) (some (.ofNat m)) none | _ => none
noncomputable def keysI (es : List Ent) : Option (List Int) := List.rec (motive := fun _ => Option (List Int)) (some []) (fun e _ ih => Option.rec none (fun a => Option.rec none (fun l => some (a :: l)) ih) (keyN e.1)) es
noncomputable def bornOK (clock : Nat) (es : List Ent) : Bool := Bool.and (allL es fun e => Nat.ble (Nat.succ e.2.2) clock) (incrI (List.rec (motive := fun _ => List Int) [] (fun e _ ih => Int.ofNat e.2.2 :: ih) es))
theorem keyN_some {v : CV} {a : Int} (h : keyN v = some a) : v = .int .i64 a ∧ 0 ≤ a ∧ a ≤ 9223372036854775807 := by
  unfold keyN at h
  split at h
  · simp only [bsel_eq, Nat.ble_eq] at h
    split at h
    · rename_i hm
      cases h
      exact ⟨rfl, Int.natCast_nonneg _, by show ((_ : Nat) : Int) ≤ _; omega⟩
    · cases h
  · cases h
theorem keysI_some : ∀ {es : List Ent} {l : List Int}, keysI es = some l → l.length = es.length ∧ ∀ (i : Nat) (e : Ent), es[i]? = some e → ∃ a, l[i]? = some a ∧ e.1 = .int .i64 a ∧ 0 ≤ a ∧ a ≤ 9223372036854775807 := by
  intro es
  induction es with
  | nil => intro l h; cases h; exact ⟨rfl, fun i e h => by simp at h⟩
  | cons e es ih =>
    intro l h
    have e0 : keysI (e :: es) = Option.rec none (fun a => Option.rec none (fun l => some (a :: l)) (keysI es)) (keyN e.1) := rfl
    rw [e0] at h
    cases hk : keyN e.1 with
    | none => rw [hk] at h; cases h
    | some a =>
      rw [hk] at h
      cases hks : keysI es with
      | none => rw [hks] at h; cases h
      | some l1 =>
        rw [hks] at h; cases h
        obtain ⟨h1, h2⟩ := ih hks
        refine ⟨by simp [h1], fun i x hx => ?_⟩
        cases i with
        | zero => simp at hx; subst hx; exact ⟨a, rfl, keyN_some hk⟩
        | succ i => simpa using h2 i x (by simpa using hx)
theorem bornOK_pair {clock : Nat} {es : List Ent} (h : bornOK clock es = true) : (∀ e ∈ es, e.2.2 < clock) ∧ (es.map (·.2.2)).Nodup := by
  unfold bornOK at h
  rw [Bool.and_eq_true, allL_iff] at h
  refine ⟨fun e he => by have := h.1 e he; rw [Nat.ble_eq] at this; exact this, ?_⟩
  have e1 : (List.rec (motive := fun _ => List Int) [] (fun e _ ih => Int.ofNat e.2.2 :: ih) es : List Int) = es.map fun e => (e.2.2 : Int) := by
    induction es with
    | nil => rfl
    | cons e es ih => exact congrArg (List.cons _) (ih ⟨fun x hx => h.1 x (List.mem_cons_of_mem _ hx), by
        have := h.2
        have h2 : Bool.and _ (incrI (List.rec (motive := fun _ => List Int) [] (fun e _ ih => Int.ofNat e.2.2 :: ih) es)) = true := this
        rw [Bool.and_eq_true] at h2; exact h2.2⟩)
  have := incrI_pair _ h.2
  rw [e1] at this
  rw [List.pairwise_map] at this
  show (es.map (·.2.2)).Nodup
  unfold List.Nodup
  rw [List.pairwise_map]
  exact this.imp fun hab => by omega

/-- f is slices.Sorted at ints of 64 bits; K: what maps.Keys gives, for a map of whatever elements. -/
structure SortFn (P : Program) (f K : Nat) (t : TypeId) : Prop where
  callable : callable P f = true
  und : P.underlying t = some (.int .i64)
  out : ∀ (B b nn : Nat) (D0 : DataW Unit) (R : Value → Option (DataW Unit × List MemPlace)) (w : World), w.cell? ⟨B, 0, none⟩ = some (.map (some b)) → B < w.heap.size → w.ownsMap P t R b nn D0 → Maps.size D0 ≤ maxLen → Maps.size D0 * 8 ≤ 140737488355328 →
    Calls P f #[.func (.func K) #[] #[.pointer (some ⟨B, 0, none⟩)]] w fun e w' => ∃ (v : Value) (ss : List Int), e = .returned v ∧ ss.Perm (intKeys D0) ∧
      w'.ownsRow w.heap.size t 1 v ss.length ((ss.mergeSort leI).map encZ) ∧ (v = .slice none 0 0 ↔ ss = []) ∧ Go.RowKit.Below w.heap.size w w'

noncomputable def rowI (l : List Int) : Segs CV := List.rec (motive := fun _ => Segs CV) .nil (fun x _ ih => .one (.int .i64 x) ih) l
noncomputable def sortRes (t : TypeId) (n : Nat) (l : List Int) (st : St) : OR :=
  bsel (incrI l) (bsel (Nat.ble n 1000000000) (bsel (Nat.beq n 0) (.ok .nilslice st) (forceN n fun n => forceB st.next.succ fun nx => (rowI l).force fun s => .ok (.slice st.next 0 n n 1) ⟨st.mem.put st.next (some (.cells s t true)), nx⟩)) .bad) .bad
noncomputable def sortG (K : Nat) (t : TypeId) : FunX := fun _ args st =>
  match args with
  | [.func (.func k) .nil (.one (.ptr bb 0) .nil)] => bsel (Nat.beq k K)
      (match st.mem.get bb with
      | some (.cells (.one (.map mb) .nil) _ _) => (match st.mem.get mb with
        | some (.map es clock) => bsel (bornOK clock es) (match keysI es with | some l => sortRes t es.length (isortI l) st | none => .bad) .bad
        | some (.lmap es) => (match keysI es with | some l => sortRes t es.length (isortI l) st | none => .bad)
        | _ => .bad)
      | _ => .bad) .bad
  | _ => .bad

section
variable {P : Program} {ρ : Ren} {st st' : St} {w w' : World} {v : CV}
/-- What is new in the world and not spoken of. -/
theorem After.below (h : WR ρ st w) (hb : Go.RowKit.Below w.heap.size w w') : After ρ st w ρ st w' :=
  ⟨⟨fun b blk r sz h1 h2 => by
      obtain ⟨o, e2, e3⟩ := h.at' b blk r sz h1 h2
      exact ⟨o, by rw [hb.block r (Array.getElem?_eq_some_iff.1 e2).1]; exact e2, e3⟩, h.inj, h.fresh, h.glob.keep (fun b blk _ sz h1 h2 => .inl ⟨b, blk, sz, h1, h2⟩) (fun r hr _ => hb.block r hr)⟩, fun _ _ h => h, fun _ _ h => h, Nat.le_refl _, fun b blk _ sz h1 h2 => .inl ⟨b, blk, sz, h1, h2⟩,
    fun r hr _ => hb.block r hr, hb.size, hb.os, hb.output⟩
theorem After.later (h : WR ρ st w) (hb : Go.RowKit.Below w.heap.size w w') {g sz : Nat} {o : Obj} {blk : Blk} (hg : w.heap.size ≤ g) (ho : w'.heap[g]? = some o) (hbr : BR (ρ.set st.next (g, sz)) blk o sz) :
    After ρ st w (ρ.set st.next (g, sz)) (st.new blk) w' := by
  have hA := (After.below h hb).trans (After.pend (After.below h hb).wr blk)
  have hn : ρ st.next = none := by
    cases hh : ρ st.next with
    | none => rfl
    | some x => have := h.fresh _ x hh; omega
  have hle : ρ.le (ρ.set st.next (g, sz)) := fun q x hx => by rw [Ren.set_ne _ _ _ _ (fun e => by rw [e, hn] at hx; cases hx)]; exact hx
  have hlow : ∀ q blk r s, (st.new blk).mem.get q = some blk → ρ q = some (r, s) → st.mem.get q = some blk := fun q blk r s h1 h2 => by
    have hq : q ≠ st.next := fun e => by rw [e, hn] at h2; cases h2
    simpa [St.new, PT.get_put_ne _ _ _ _ hq] using h1
  have hold : ∀ q b2, q ≠ st.next → (st.new blk).mem.get q = some b2 → st.mem.get q = some b2 := fun q b2 hq h1 => by simpa [St.new, PT.get_put_ne _ _ _ _ hq] using h1
  have hreal : ∀ q b2 r s, st.mem.get q = some b2 → ρ q = some (r, s) → r < w.heap.size := fun q b2 r s h1 h2 => by
    obtain ⟨o, e2, _⟩ := h.at' q b2 r s h1 h2
    exact (Array.getElem?_eq_some_iff.1 e2).1
  have hor : ∀ q b2 r s, (st.new blk).mem.get q = some b2 → ρ.set st.next (g, sz) q = some (r, s) → (∃ b0 blk0 sz0, st.mem.get b0 = some blk0 ∧ ρ b0 = some (r, sz0)) ∨ w.heap.size ≤ r := fun q b2 r s h1 h2 => by
    by_cases e : q = st.next
    · subst e; rw [Ren.set_same] at h2; cases h2; exact .inr hg
    · rw [Ren.set_ne _ _ _ _ e] at h2; exact hA.origin q b2 r s h1 h2
  refine ⟨⟨fun q b2 r s h1 h2 => ?_, fun q q' b1 b2 r s s' h1 h2 h3 h4 => ?_, fun q x hx => ?_, h.glob.keep hor hA.kept⟩, hle, fun q hq hr => ?_, hA.next, hor, hA.kept, hb.size, hb.os, hb.output⟩
  · by_cases e : q = st.next
    · subst e
      simp only [St.new, PT.get_put_same, Option.some.injEq] at h1; subst h1
      rw [Ren.set_same] at h2; cases h2
      exact ⟨o, ho, hbr⟩
    · rw [Ren.set_ne _ _ _ _ e] at h2
      obtain ⟨o', e2, e3⟩ := hA.wr.at' q b2 r s h1 h2
      exact ⟨o', e2, e3.mono hle⟩
  · by_cases e : q = st.next
    · by_cases e' : q' = st.next
      · rw [e, e']
      · rw [e, Ren.set_same] at h3; cases h3
        rw [Ren.set_ne _ _ _ _ e'] at h4
        have := hreal q' b2 _ _ (hold q' b2 e' h2) h4; omega
    · by_cases e' : q' = st.next
      · rw [e', Ren.set_same] at h4; cases h4
        rw [Ren.set_ne _ _ _ _ e] at h3
        have := hreal q b1 _ _ (hold q b1 e h1) h3; omega
      · rw [Ren.set_ne _ _ _ _ e] at h3; rw [Ren.set_ne _ _ _ _ e'] at h4
        exact h.inj q q' b1 b2 r s s' (hold q b1 e h1) (hold q' b2 e' h2) h3 h4
  · by_cases e : q = st.next
    · subst e; show st.next.dec < st.next.succ.dec; rw [Bp.dec_succ]; omega
    · rw [Ren.set_ne _ _ _ _ e] at hx; exact hA.wr.fresh q x hx
  · rw [Ren.set_ne _ _ _ _ (fun e => by rw [e] at hq; omega)]; exact hr

theorem rowI_cells (l : List Int) : row (rowI l) = l.map fun x => CV.int .i64 x := by
  induction l with
  | nil => rfl
  | cons x l ih => exact congrArg (List.cons _) ih
theorem rowI_VRs (l : List Int) : VRs ρ (row (rowI l)) (l.map encZ) := by
  rw [rowI_cells]
  induction l with
  | nil => exact VRs.nil ρ
  | cons x l ih => exact VRs.cons (.int _ _) ih

theorem sortRes_sound {f K : Nat} {t : TypeId} (hf : SortFn P f K t) {es : List Ent} {l : List Int} {bb mb : Bp} {ty : TypeId} {g : Bool} (hl : keysI es = some l) (h : sortRes t es.length (isortI l) st = .ok v st')
    (hbb : st.mem.get bb = some (.cells (.one (.map mb) .nil) ty g))
    (hmap : ∀ ρ w r sz, WR ρ st w → ρ mb = some (r, sz) → ∃ (es' : List MapEntry) (clock : Nat) (pl : List Ent), w.heap[r]? = some (.map es'.toArray clock) ∧ pl.Perm es ∧ pl.length = es'.length ∧
      (∀ (i : Nat) (e : Ent) (e' : MapEntry), pl[i]? = some e → es'[i]? = some e' → VR ρ e.1 e'.key) ∧ (∀ x ∈ es', x.born < clock) ∧ (es'.map (·.born)).Nodup) :
    Sim.callable P f = true ∧ CallOK P f [.func (.func K) .nil (.one (.ptr bb 0) .nil)] st v st' := by
  refine ⟨hf.callable, ?_⟩
  intro ρ w args' hw ha
  obtain ⟨x', t', e1, hx, ha2⟩ := ha.inv
  have e3 : t' = [] := by have := ha2.len; simpa using this.symm
  subst e3
  have e4 : args' = #[x'] := by rw [← Array.toArray_toList (xs := args'), e1]
  subst e4
  unfold sortRes at h
  simp only [bsel_eq, Nat.ble_eq, Nat.beq_eq, forceN_eq, forceB_eq, Segs.force_eq] at h
  split at h
  · rename_i hinc
    split at h
    · rename_i hbig
      cases hx with
      | func _ _ _ f' c' g1 g2 g3 g4 =>
        have hf0 : f' = [] := by have : (0 : Nat) = f'.length := g1; exact List.length_eq_zero_iff.1 this.symm
        subst hf0
        obtain ⟨p', rest, rfl, hp, hrest⟩ := (VRs.mk (ρ := ρ) g2 g4).inv
        have hr0 : rest = [] := List.length_eq_zero_iff.1 hrest.len.symm
        subst hr0
        cases hp with
        | ptr _ _ B zB hB =>
          obtain ⟨c, lo, hi, a1, a2, a3, a4, a5⟩ := hw.row hbb hB
          obtain ⟨m', hm1, hm2⟩ := a4.get (i := 0) (v := .map mb) rfl
          cases hm2 with
          | map _ r sz hr =>
            obtain ⟨es', clock, pl, b1, b2, b3, b4, b5, b6⟩ := hmap ρ w r sz hw hr
            have hcell : w.cell? ⟨B, 0, none⟩ = some (.map (some r)) := by
              have : c.toList[0]? = some (.map (some r)) := by
                rw [List.getElem?_take] at hm1
                split at hm1
                · exact hm1
                · cases hm1
              simp only [World.cell?, a1]; simpa using this
            have hBl : B < w.heap.size := (Array.getElem?_eq_some_iff.1 a1).1
            obtain ⟨kl1, kl2⟩ := keysI_some hl
            -- each key is an int
            have hkey : ∀ x ∈ es', ∃ a : Int, a ∈ l ∧ x.key = .int .i64 a ∧ 0 ≤ a ∧ a ≤ 9223372036854775807 := by
              intro x hx
              obtain ⟨i, hi', rfl⟩ := List.getElem_of_mem hx
              have hlt : i < pl.length := by omega
              have hv := b4 i pl[i] _ (List.getElem?_eq_getElem hlt) (List.getElem?_eq_getElem hi')
              have hmem := b2.mem_iff.1 (List.getElem_mem hlt)
              obtain ⟨j, hj, hje⟩ := List.getElem_of_mem hmem
              obtain ⟨a, k1, k2, k3, k4⟩ := kl2 j es[j] (List.getElem?_eq_getElem hj)
              rw [← hje, k2] at hv
              exact ⟨a, List.mem_of_getElem? k1, intKey hv, k3, k4⟩
            -- the keys, as numbers
            have hnums : (es'.map fun x => (match x.key with | .int _ a => a | _ => 0)).Perm l := by
              have h1 : es'.map (fun x => (match x.key with | .int _ a => a | _ => 0)) = pl.map fun e => (match e.1 with | .int _ a => a | _ => 0) := by
                apply List.ext_getElem?
                intro i
                rw [List.getElem?_map, List.getElem?_map]
                rcases Nat.lt_or_ge i es'.length with hlt | hge
                · have hlt2 : i < pl.length := by omega
                  rw [List.getElem?_eq_getElem hlt, List.getElem?_eq_getElem hlt2]
                  have hv := b4 i pl[i] es'[i] (List.getElem?_eq_getElem hlt2) (List.getElem?_eq_getElem hlt)
                  obtain ⟨j, hj, hje⟩ := List.getElem_of_mem (b2.mem_iff.1 (List.getElem_mem hlt2))
                  obtain ⟨a, k1, k2, _⟩ := kl2 j es[j] (List.getElem?_eq_getElem hj)
                  rw [← hje, k2] at hv
                  have hk := intKey hv
                  have hpe : pl[i].1 = .int .i64 a := by rw [← hje, k2]
                  simp [hk, hpe]
                · have hge2 : pl.length ≤ i := by omega
                  rw [List.getElem?_eq_none hge, List.getElem?_eq_none hge2]; rfl
              have h2 : es.map (fun e => (match e.1 with | .int _ a => a | _ => 0)) = l := by
                apply List.ext_getElem?
                intro i
                rw [List.getElem?_map]
                rcases Nat.lt_or_ge i es.length with hlt | hge
                · obtain ⟨a, k1, k2, _⟩ := kl2 i es[i] (List.getElem?_eq_getElem hlt)
                  rw [List.getElem?_eq_getElem hlt, k1]; simp [k2]
                · have hge2 : l.length ≤ i := by omega
                  rw [List.getElem?_eq_none hge, List.getElem?_eq_none hge2]; rfl
              rw [h1, ← h2]
              exact b2.map _
            have hlnd : l.Nodup := by
              have := (incrI_pair _ hinc).imp (S := fun a b => a ≠ b) (fun hab => by omega)
              exact (isortI_perm l).nodup_iff.1 this
            have hknd : (es'.map (·.key)).Nodup := by
              have hn := hnums.nodup_iff.2 hlnd
              unfold List.Nodup at hn ⊢
              rw [List.pairwise_map] at hn ⊢
              exact hn.imp fun hab e => hab (by rw [e])
            have hst : Go.MapKept.Stamped es'.toArray clock := ⟨fun x hx => b5 x (by simpa using hx), by simpa using b6, by simpa using hknd⟩
            have hlen : es'.length ≤ 1000000000 := by
              have e5 : es'.length = es.length := by rw [← b3, b2.length_eq]
              have hb : es.length ≤ 1000000000 := hbig
              omega
            have hrd : ∀ x ∈ es', ∃ y, Go.WideElems.rd P t (fun _ => some ((.nil : DataW Unit), ([] : List MemPlace))) x = some y := by
              intro x hx
              obtain ⟨a, _, ha1, ha2, ha3⟩ := hkey x hx
              refine ⟨(.int .i64 a, .nil), ?_⟩
              have hko : Go.keyOf P t x.key = some (.int .i64 a) := by
                unfold Go.keyOf mapKey
                rw [hf.und, ha1]
                have m1 : IntKind.i64.min = -9223372036854775808 := by decide
                have m2 : IntKind.i64.max = 9223372036854775807 := by decide
                simp [Lit.wf, m1, m2]
                omega
              simp [Go.WideElems.rd, hko]
            have hown : w.ownsMap P t (fun _ => some ((.nil : DataW Unit), ([] : List MemPlace))) r es'.length (.map ((es'.toArray.toList.map (Go.WideElems.rg P t fun _ => some ((.nil : DataW Unit), ([] : List MemPlace)))).foldr DataW.insert [])) :=
              ⟨es'.toArray, clock, b1, ⟨by show es'.toArray.size ≤ maxLen; simp only [List.size_toArray, maxLen]; omega, hst, fun x hx => hrd x (by simpa using hx)⟩, by simp, rfl⟩
            have hsize : Maps.size (H := Unit) (.map ((es'.toArray.toList.map (Go.WideElems.rg P t fun _ => some ((.nil : DataW Unit), ([] : List MemPlace)))).foldr DataW.insert [])) = es'.length := by
              show (List.foldr (DataW.insert (H := Unit)) _ _).length = _
              rw [Go.length_sorted]; simp
            have hkeys : (intKeys (H := Unit) (.map ((es'.toArray.toList.map (Go.WideElems.rg P t fun _ => some ((.nil : DataW Unit), ([] : List MemPlace)))).foldr DataW.insert []))).Perm l := by
              refine (List.Perm.map _ (Go.WideShapes.sorted_perm _)).trans ?_
              rw [List.map_map]
              have : es'.toArray.toList.map ((fun p => intOf p.1) ∘ Go.WideElems.rg P t fun _ => some ((.nil : DataW Unit), ([] : List MemPlace))) = es'.map fun x => (match x.key with | .int _ a => a | _ => 0) := by
                apply List.map_congr_left
                intro x hx
                obtain ⟨a, _, ha1, ha2, ha3⟩ := hkey x hx
                have hko : Go.keyOf P t x.key = some (.int .i64 a) := by
                  unfold Go.keyOf mapKey
                  rw [hf.und, ha1]
                  have m1 : IntKind.i64.min = -9223372036854775808 := by decide
                  have m2 : IntKind.i64.max = 9223372036854775807 := by decide
                  simp [Lit.wf, m1, m2]
                  omega
                rw [ha1] at hko
                simp [Go.WideElems.rg, Go.WideElems.rd, hko, ha1, intOf]
              rw [this]; exact hnums
            refine (hf.out B r es'.length _ _ w hcell hBl hown (by rw [hsize]; simp only [maxLen]; omega) (by rw [hsize]; omega)).mono ?_
            rintro e w' ⟨v', ss, rfl, hss, hrow, hnil, hbl⟩
            have hperm : ss.Perm l := hss.trans hkeys
            have hms : ss.mergeSort leI = isortI l := by rw [mergeSort_of_perm_i hperm]; exact isortI_merge hinc
            have hsl : ss.length = es.length := by rw [hperm.length_eq, kl1]
            split at h
            · rename_i h0
              cases h
              have hs0 : ss = [] := List.length_eq_zero_iff.1 (by rw [hsl]; exact h0)
              have := hnil.2 hs0
              subst this
              exact ⟨_, ρ, rfl, .nilslice, After.below hw hbl⟩
            · rename_i h0
              cases h
              rcases hrow.2 with ⟨q1, q2⟩ | ⟨gg, cap, cur, q1, q2, q3, q4, q5, q6, q7⟩
              · exact absurd (by rw [← hsl]; exact q2) h0
              · rw [hms] at q7
                have hiv : VRs (ρ.set st.next (gg, cur.size)) (row (rowI (isortI l))) (cur.toList.take (rowI (isortI l)).size) := by
                  have hz : (rowI (isortI l)).size = ss.length * 1 := by
                    rw [← row_length, rowI_cells, List.length_map, (isortI_perm l).length_eq, kl1, hsl]; omega
                  rw [hz, q7]; exact rowI_VRs _
                have hsz : (rowI (isortI l)).size = ss.length := by
                  rw [← row_length, rowI_cells, List.length_map, (isortI_perm l).length_eq, kl1, hsl]
                have hbr := BR.cells (ρ := ρ.set st.next (gg, cur.size)) (rowI (isortI l)) t true cur 0 0 (by rw [hsz, q6]; omega) hiv (by omega) (fun hh => by cases hh)
                have hA := After.later hw hbl q2 q3 hbr
                refine ⟨v', _, rfl, ?_, hA⟩
                rw [q1, hsl]
                exact .sliceG _ 0 0 _ _ cap 1 gg cur.size (Ren.set_same _ _ _) (by omega) (Nat.le_refl _) (by omega) (fun _ => rfl) (by omega)
    · cases h
  · cases h
theorem sortG_sound {f K : Nat} {t : TypeId} (hf : SortFn P f K t) (call : CallF) (args : List CV) (st : St) (v : CV) (st' : St) (h : sortG K t call args st = .ok v st') : CallOut P f args st v st' := by
  left
  unfold sortG at h
  split at h
  · rename_i k bb
    simp only [bsel_eq, Nat.beq_eq] at h
    split at h
    · rename_i hk
      subst hk
      split at h
      · rename_i mb ty g hbb
        split at h
        · rename_i es clock hmb
          split at h
          · rename_i hborn
            split at h
            · rename_i l hl
              refine sortRes_sound hf hl h hbb fun ρ w r sz hw hr => ?_
              obtain ⟨es', h1, h2, h3⟩ := hw.map hmb hr
              obtain ⟨b1, b2⟩ := bornOK_pair hborn
              have hbm : es'.map (·.born) = es.map (·.2.2) := by
                apply List.ext_getElem?
                intro i
                rw [List.getElem?_map, List.getElem?_map]
                rcases Nat.lt_or_ge i es'.length with hlt | hge
                · rw [List.getElem?_eq_getElem hlt, List.getElem?_eq_getElem (by omega)]
                  have := (h3 i es[i] es'[i] (List.getElem?_eq_getElem (by omega)) (List.getElem?_eq_getElem hlt)).2.2
                  simp [this]
                · have hge2 : es.length ≤ i := by omega
                  rw [List.getElem?_eq_none hge, List.getElem?_eq_none hge2]; rfl
              refine ⟨es', clock, es, h1, List.Perm.refl _, h2, fun i e e' g1 g2 => (h3 i e e' g1 g2).1, fun x hx => ?_, by rw [hbm]; exact b2⟩
              have : x.born ∈ es'.map (·.born) := List.mem_map_of_mem hx
              rw [hbm, List.mem_map] at this
              obtain ⟨e, he, he2⟩ := this
              rw [← he2]; exact b1 e he
            · cases h
          · cases h
        · rename_i es hmb
          split at h
          · rename_i l hl
            refine sortRes_sound hf hl h hbb fun ρ w r sz hw hr => ?_
            obtain ⟨pl, clock, es', h1, h2, h3, h4, h5, h6, h7⟩ := hw.lmap hmb hr
            exact ⟨es', clock, pl, h1, h2, h6, fun i e e' g1 g2 => (h7 i e e' g1 g2).1, fun x hx => h5.1 x (by simpa using hx), by simpa using h5.2.1⟩
          · cases h
        · cases h
      · cases h
    · cases h
  · cases h
end
end Sim

/- Sim, part 42: maps.Copy at keys that are ints: what it comes to. -/
namespace Sim
open Go Go.Sort

noncomputable def hasA (a : Int) (es : List Ent) : Bool := anyL es fun e => isA a e.1
noncomputable def keyZ (v : CV) : Int := match v with | .int _ a => a | _ => 0
noncomputable def mergeL (d s : List Ent) : List Ent := List.rec (motive := fun _ => List Ent) s (fun e _ ih => bsel (hasA (keyZ e.1) s) ih (e :: ih)) d
noncomputable def entsA (x : Option Blk) : Option (List Ent) :=
  match x with
  | some (.map es clock) => bsel (bornOK clock es) (some es) none
  | some (.lmap es) => some es
  | _ => none
noncomputable def keysOK (es : List Ent) : Bool := match keysI es with | some l => incrI (isortI l) | none => false
noncomputable def forceE {β : Type} (l : List Ent) : (List Ent → β) → β := List.rec (motive := fun _ => (List Ent → β) → β) (fun k => k []) (fun e _ ih k => ih fun r => k (e :: r)) l
theorem forceE_eq {β : Type} : ∀ (l : List Ent) (k : List Ent → β), forceE l k = k l := by
  intro l
  induction l with
  | nil => intro k; rfl
  | cons e l ih => intro k; exact ih fun r => k (e :: r)
/-- n: how many cells an element has. -/
noncomputable def valsOK (n : Nat) (es : List Ent) : Bool := allL es fun e => match e.2.1 with | .agg s => Bool.and (Nat.beq s.size n) (oneCells s) | _ => false
noncomputable def stripE (es : List Ent) : List Ent := List.rec (motive := fun _ => List Ent) [] (fun e _ ih => (e.1, e.2.1, 0) :: ih) es
noncomputable def copyG (n : Nat) : FunX := fun _ args st =>
  match args with
  | [.map bd, .map bs] => bsel (bpEq bd bs) .bad
      (match entsA (st.mem.get bd), entsA (st.mem.get bs) with
      | some d, some s => bsel (Bool.and (keysOK d) (Bool.and (keysOK s) (valsOK n s))) (forceE (mergeL (stripE d) (stripE s)) fun m => .ok .undef ⟨st.mem.put bd (some (.lmap m)), st.next⟩) .bad
      | _, _ => .bad)
  | _ => .bad
end Sim

/- Sim, part 42b: maps.Copy at keys that are ints: whatever the order in which the entries come. -/
namespace Sim
open Go

/- what is merged -/
theorem hasA_iff {a : Int} {es : List Ent} : hasA a es = true ↔ ∃ e ∈ es, e.1 = .int .i64 a := by
  unfold hasA
  rw [anyL_iff]
  exact ⟨fun ⟨e, h1, h2⟩ => ⟨e, h1, isA_iff.1 h2⟩, fun ⟨e, h1, h2⟩ => ⟨e, h1, isA_iff.2 h2⟩⟩
theorem mergeL_cons (e : Ent) (d s : List Ent) : mergeL (e :: d) s = bsel (hasA (keyZ e.1) s) (mergeL d s) (e :: mergeL d s) := rfl
def IntKeys (es : List Ent) : Prop := ∀ e ∈ es, ∃ n : Int, e.1 = .int .i64 n
theorem mergeL_mem {s : List Ent} : ∀ {d : List Ent}, IntKeys d → ∀ x, x ∈ mergeL d s ↔ x ∈ s ∨ (x ∈ d ∧ ∀ e ∈ s, e.1 ≠ x.1) := by
  intro d
  induction d with
  | nil => intro _ x; show x ∈ s ↔ _; simp
  | cons e d ih =>
    intro hi x
    obtain ⟨n, hn⟩ := hi e (List.mem_cons_self ..)
    have hi' : IntKeys d := fun y hy => hi y (List.mem_cons_of_mem _ hy)
    rw [mergeL_cons, bsel_eq]
    have hz : keyZ e.1 = n := by rw [hn]; rfl
    by_cases hh : hasA (keyZ e.1) s = true
    · rw [if_pos hh, ih hi' x]
      rw [hz] at hh
      obtain ⟨f, hf, hf1⟩ := hasA_iff.1 hh
      constructor
      · rintro (h | ⟨h1, h2⟩)
        · exact .inl h
        · exact .inr ⟨List.mem_cons_of_mem _ h1, h2⟩
      · rintro (h | ⟨h1, h2⟩)
        · exact .inl h
        · rcases List.mem_cons.1 h1 with rfl | h1
          · exact absurd (by rw [hf1, hn]) (h2 f hf)
          · exact .inr ⟨h1, h2⟩
    · rw [if_neg hh, List.mem_cons, ih hi' x]
      rw [hz] at hh
      constructor
      · rintro (rfl | h | ⟨h1, h2⟩)
        · exact .inr ⟨List.mem_cons_self .., fun f hf he => hh (hasA_iff.2 ⟨f, hf, by rw [he, hn]⟩)⟩
        · exact .inl h
        · exact .inr ⟨List.mem_cons_of_mem _ h1, h2⟩
      · rintro (h | ⟨h1, h2⟩)
        · exact .inr (.inl h)
        · rcases List.mem_cons.1 h1 with rfl | h1
          · exact .inl rfl
          · exact .inr (.inr ⟨h1, h2⟩)
theorem mergeL_keys {d s : List Ent} (hd : IntKeys d) (hs : IntKeys s) : IntKeys (mergeL d s) := fun x hx => by
  rcases (mergeL_mem hd x).1 hx with h | ⟨h, _⟩
  · exact hs x h
  · exact hd x h
theorem mergeL_nodup {s : List Ent} (hs : (s.map (·.1)).Nodup) : ∀ {d : List Ent}, IntKeys d → (d.map (·.1)).Nodup → ((mergeL d s).map (·.1)).Nodup := by
  intro d
  induction d with
  | nil => intro _ _; exact hs
  | cons e d ih =>
    intro hi hn
    rw [List.map_cons, List.nodup_cons] at hn
    have hi' : IntKeys d := fun y hy => hi y (List.mem_cons_of_mem _ hy)
    rw [mergeL_cons, bsel_eq]
    split
    · exact ih hi' hn.2
    · rename_i hh
      obtain ⟨n, hn1⟩ := hi e (List.mem_cons_self ..)
      have hz : keyZ e.1 = n := by rw [hn1]; rfl
      rw [hz] at hh
      rw [List.map_cons, List.nodup_cons]
      refine ⟨fun hm => ?_, ih hi' hn.2⟩
      obtain ⟨x, hx, hxe⟩ := List.mem_map.1 hm
      rcases (mergeL_mem hi' x).1 hx with h | ⟨h, _⟩
      · exact hh (hasA_iff.2 ⟨x, h, by rw [hxe, hn1]⟩)
      · exact hn.1 (List.mem_map.2 ⟨x, h, hxe⟩)

/-- The text of maps.Copy. -/
def cpE (n : Nat) (g : Ground) : Go.Edge := { on := n, ground := g }
structure CopyFn (P : Program) (f : Nat) (n : Nat) : Prop where
  out : ∃ (fn : Func) (t kt et : TypeId) (d : Nat) (R0 : Array Oper) (R1 R2 R3 : Array Oper) (o0 o1 o2 o3 o4 o5 o6 o7 o8 o9 p0 p1 p2 p3 : Oper), P.funcs[f]? = some fn ∧ Sim.callable P f = true ∧ fn.results = #[] ∧ 16 ≤ fn.ntmps ∧
    fn.body = some (Code.seq (.region 0 R0 false) (.block 0 (.loop (.seq (.region 1 R1 false) (.seq (.cond (.tmp 9) .skip (.exit 0)) (.block 1 (.seq (.region 2 R2 false) (.region 3 R3 false)))))))) ∧
    R0.toList = [o0, o1] ∧ R1.toList = [o2, o3] ∧ R2.toList = [o4, o5, o6, o7, o8, o9] ∧ R3.toList = [p0, p1, p2, p3] ∧
    (∀ o ∈ [o0, o1, o2, o3, o4, o5, o6, o7, o8, o9, p0, p1, p2, p3], o.guard = none) ∧
    (o0.op = .move (.tmp 1) ∧ o0.dst = some 6) ∧ (o1.op = .range t (.tmp 6) ∧ o1.dst = some 7) ∧ (o2.op = .next (.tmp 7) false ∧ o2.dst = some 8) ∧ (o3.op = .extract (.tmp 8) 0 ∧ o3.dst = some 9) ∧
    (o4.op = .entry (.tmp 7) ∧ o4.dst = some 10) ∧ (o5.op = .extract (.tmp 10) 0 ∧ o5.dst = some 11) ∧ (o6.op = .extract (.tmp 10) 1 ∧ o6.dst = some 12) ∧ (o7.op = .alloc et ∧ o7.dst = some 5) ∧ (o8.op = .assign (.tmp 11) ∧ o8.dst = some 4) ∧
    (o9.op = .store et (.tmp 5) (.tmp 12) ∧ o9.dst = none) ∧ (p0.op = .move (.tmp 0) ∧ p0.dst = some 13) ∧ (p1.op = .move (.tmp 4) ∧ p1.dst = some 14) ∧ (p2.op = .load et (.tmp 5) ∧ p2.dst = some 15) ∧ (p3.op = .mapUpdate t (.tmp 13) (.tmp 14) (.tmp 15) ∧ p3.dst = none) ∧
    P.underlying t = some (.map kt et) ∧ eqDesc P d kt = some .int ∧ d < 10000 ∧ deepKey 40 .int = true ∧ (∃ i z, P.info? et = some i ∧ i.zero = some z ∧ i.size = n ∧ z.cells.size = n) ∧ (∀ w, (isAgg et).run P w = .ok true w)

/- acts -/
theorem eval_put_same {a : Act} {d : Nat} {v : Value} (h : d < a.tmps.size) : (a.put (some d) v).eval (.tmp d) = v := by simp [Act.eval, Act.put, h]
theorem eval_put_ne {a : Act} {d k : Nat} {v : Value} (h : d ≠ k) : (a.put (some d) v).eval (.tmp k) = a.eval (.tmp k) := by
  simp only [Act.eval, Act.put]
  simp [Array.getElem?_setIfInBounds_ne h]

section
variable {P : Program} {ρ : Ren} {st : St} {w : World}
theorem stripE_map (es : List Ent) : stripE es = es.map fun e => (e.1, e.2.1, 0) := by
  induction es with
  | nil => rfl
  | cons e es ih => exact congrArg (List.cons _) ih
/-- A map of known keys, as a loose one. -/
theorem loose_of {b : Bp} {es : List Ent} {r sz : Nat} (hw : WR ρ st w) (he : entsA (st.mem.get b) = some es) (hk : keysOK es = true) (hr : ρ b = some (r, sz)) :
    ∃ (clock : Nat) (es' : List MapEntry) (l : List Ent), w.heap[r]? = some (.map es'.toArray clock) ∧ l.Perm es ∧ (∀ (i : Nat) (e : Ent) (e' : MapEntry), l[i]? = some e → es'[i]? = some e' → VR ρ e.1 e'.key ∧ VR ρ e.2.1 e'.val) ∧
      Go.MapKept.Stamped es'.toArray clock ∧ IntKeys es ∧ (es.map (·.1)).Nodup ∧ l.length = es'.length := by
  have hkk : IntKeys es ∧ (es.map (·.1)).Nodup := by
    unfold keysOK at hk
    split at hk
    · rename_i l hl
      obtain ⟨k1, k2⟩ := keysI_some hl
      have hnd : l.Nodup := (isortI_perm l).nodup_iff.1 ((incrI_pair _ hk).imp (S := fun a b => a ≠ b) (fun hab => by omega))
      have hmap : es.map (·.1) = l.map fun a => CV.int .i64 a := by
        apply List.ext_getElem?
        intro i
        rw [List.getElem?_map, List.getElem?_map]
        rcases Nat.lt_or_ge i es.length with hlt | hge
        · obtain ⟨a, g1, g2, _⟩ := k2 i es[i] (List.getElem?_eq_getElem hlt)
          rw [List.getElem?_eq_getElem hlt, g1]; simp [g2]
        · have hge2 : l.length ≤ i := by omega
          rw [List.getElem?_eq_none hge, List.getElem?_eq_none hge2]; rfl
      refine ⟨fun e he => ?_, ?_⟩
      · obtain ⟨i, hi, rfl⟩ := List.getElem_of_mem he
        obtain ⟨a, _, g2, _⟩ := k2 i es[i] (List.getElem?_eq_getElem hi)
        exact ⟨a, g2⟩
      · rw [hmap]
        unfold List.Nodup at hnd ⊢
        rw [List.pairwise_map]
        exact hnd.imp fun hab e => hab (by cases e; rfl)
    · cases hk
  unfold entsA at he
  split at he
  · rename_i es0 clock hm
    rw [bsel_eq] at he
    split at he
    · rename_i hb
      cases he
      obtain ⟨es', h1, h2, h3⟩ := hw.map hm hr
      obtain ⟨b1, b2⟩ := bornOK_pair hb
      have hbm : es'.map (·.born) = es.map (·.2.2) := by
        apply List.ext_getElem?
        intro i
        rw [List.getElem?_map, List.getElem?_map]
        rcases Nat.lt_or_ge i es'.length with hlt | hge
        · rw [List.getElem?_eq_getElem hlt, List.getElem?_eq_getElem (by omega)]
          have := (h3 i es[i] es'[i] (List.getElem?_eq_getElem (by omega)) (List.getElem?_eq_getElem hlt)).2.2
          simp [this]
        · have hge2 : es.length ≤ i := by omega
          rw [List.getElem?_eq_none hge, List.getElem?_eq_none hge2]; rfl
      refine ⟨clock, es', es, h1, List.Perm.refl _, fun i e e' g1 g2 => ⟨(h3 i e e' g1 g2).1, (h3 i e e' g1 g2).2.1⟩, ⟨fun x hx => ?_, ?_, ?_⟩, hkk.1, hkk.2, h2⟩
      · have : x.born ∈ es'.map (·.born) := List.mem_map_of_mem (by simpa using hx)
        rw [hbm, List.mem_map] at this
        obtain ⟨e, he, he2⟩ := this
        rw [← he2]; exact b1 e he
      · show ((es'.toArray.toList).map (·.born)).Nodup
        rw [List.toList_toArray, hbm]; exact b2
      · show ((es'.toArray.toList).map (·.key)).Nodup
        rw [List.toList_toArray]
        have hn := hkk.2
        unfold List.Nodup at hn ⊢
        rw [List.pairwise_map] at hn ⊢
        rw [List.pairwise_iff_getElem] at hn ⊢
        intro i j hi hj hij e
        refine hn i j (by omega) (by omega) hij ?_
        obtain ⟨a, ha⟩ := hkk.1 es[i] (List.getElem_mem (by omega))
        obtain ⟨b, hb⟩ := hkk.1 es[j] (List.getElem_mem (by omega))
        have v1 := (h3 i es[i] es'[i] (List.getElem?_eq_getElem (by omega)) (List.getElem?_eq_getElem hi)).1
        have v2 := (h3 j es[j] es'[j] (List.getElem?_eq_getElem (by omega)) (List.getElem?_eq_getElem hj)).1
        rw [ha] at v1; rw [hb] at v2
        have w1 := intKey v1
        have w2 := intKey v2
        rw [w1, w2] at e
        cases e
        rw [ha, hb]
    · cases he
  · rename_i es0 hm
    cases he
    obtain ⟨l, clock, es', h1, h2, h3, h4, h5, h6, h7⟩ := hw.lmap hm hr
    exact ⟨clock, es', l, h1, h2, h7, h5, h3, h4, h6⟩
  · cases he
theorem strip_keys {es : List Ent} (h : IntKeys es) : IntKeys (stripE es) := by
  rw [stripE_map]
  intro e he
  obtain ⟨x, hx, rfl⟩ := List.mem_map.1 he
  exact h x hx
theorem strip_nodup {es : List Ent} (h : (es.map (·.1)).Nodup) : ((stripE es).map (·.1)).Nodup := by
  rw [stripE_map, List.map_map]; exact h
theorem After.loosen {b : Bp} {es : List Ent} {r sz : Nat} (hw : WR ρ st w) (he : entsA (st.mem.get b) = some es) (hk : keysOK es = true) (hr : ρ b = some (r, sz)) : After ρ st w ρ (st.set b (.lmap (stripE es))) w := by
  obtain ⟨clock, es', l, h1, h2, h3, h4, h5, h6, h7⟩ := loose_of hw he hk hr
  obtain ⟨blk, hblk⟩ : ∃ blk, st.mem.get b = some blk := by
    cases hb : st.mem.get b with
    | some x => exact ⟨x, rfl⟩
    | none => rw [hb] at he; cases he
  refine After.set hw hblk hr h1 (.lmap (stripE es) (stripE l) clock es' (by rw [stripE_map, stripE_map]; exact h2.map _) (strip_keys h5) (strip_nodup h6) h4 (by rw [stripE_map]; simp [h7]) (fun i e e' g1 g2 => ?_) sz) (fun _ _ => rfl) rfl rfl rfl
  rw [stripE_map, List.getElem?_map] at g1
  cases hl : l[i]? with
  | none => rw [hl] at g1; simp at g1
  | some x => rw [hl] at g1; simp at g1; subst g1; exact h3 i x e' hl g2
/-- The world goes on where nothing is known. -/
theorem After.unk {ρ0 : Ren} {st0 M : St} {w0 w' : World} (h : After ρ0 st0 w0 ρ M w) (hg : Glob ρ0 st0 w0) (it : Nat) (hi : w0.heap.size ≤ it) (hu : ∀ b blk sz, M.mem.get b = some blk → ρ b ≠ some (it, sz)) (hs : w.heap.size ≤ w'.heap.size) (hk : ∀ r, r < w.heap.size → r ≠ it → w'.heap[r]? = w.heap[r]?) (hos : w'.os = w.os) (hout : w'.output = w.output) : After ρ0 st0 w0 ρ M w' where
  wr := ⟨fun b blk r sz h1 h2 => by
      obtain ⟨o, e2, e3⟩ := h.wr.at' b blk r sz h1 h2
      exact ⟨o, by rw [hk r (Array.getElem?_eq_some_iff.1 e2).1 (fun e => hu b blk sz h1 (by rw [h2, e]))]; exact e2, e3⟩, h.wr.inj, h.wr.fresh, hg.keep h.origin (fun r hr hn => by
    rw [hk r (Nat.lt_of_lt_of_le hr h.size) (by omega)]; exact h.kept r hr hn)⟩
  ext := h.ext
  dom := h.dom
  next := h.next
  origin := h.origin
  kept := fun r hr hn => by
    rw [hk r (Nat.lt_of_lt_of_le hr h.size) (by omega)]; exact h.kept r hr hn
  size := Nat.le_trans h.size hs
  os := hos.trans h.os
  output := hout.trans h.output
end
end Sim

/- Sim, part 42c: maps.Copy: the walk. -/
namespace Sim
open Go

section
variable {P : Program} {ops : Array Oper} {Q : Exit → Act → World → Prop}
theorem stepV {rest : List Oper} {o : Oper} {a : Act} {w w' : World} {v : Value} (hg : o.guard = none) (hr : (execOp a.eval o).run P w = .ok (.value v) w') (h : wpList P ops Q rest (a.put o.dst v) w') : wpList P ops Q (o :: rest) a w :=
  wpList_plain hg fun K hK => by unfold Oper.wp; rw [hr]; exact hK _ _ h
theorem stepU {rest : List Oper} {o : Oper} {a : Act} {w w' : World} (hg : o.guard = none) (hr : (execOp a.eval o).run P w = .ok .skip w') (h : wpList P ops Q rest (a.put o.dst undef) w') : wpList P ops Q (o :: rest) a w :=
  wpList_plain hg fun K hK => by unfold Oper.wp; rw [hr]; exact hK _ _ h
end
section
variable {P : Program} {a : Act} {w : World} {o : Oper}
theorem run_move {x : Operand} (ho : o.op = .move x) : (execOp a.eval o).run P w = .ok (.value (a.eval x)) w := by unfold execOp; rw [ho]; rfl
theorem run_assign {x : Operand} (ho : o.op = .assign x) : (execOp a.eval o).run P w = .ok (.value (a.eval x)) w := by unfold execOp; rw [ho]; rfl
theorem run_extract {x : Operand} {i : Nat} {vs : Array Value} {v : Value} (ho : o.op = .extract x i) (hx : a.eval x = .tuple vs) (hv : vs[i]? = some v) : (execOp a.eval o).run P w = .ok (.value v) w := by
  unfold execOp; rw [ho]
  dsimp only
  rw [hx]
  simp [Instr.extract, hv]
theorem run_next {x : Operand} {v : Value} {w' : World} (ho : o.op = .next x false) (h : (Instr.next (a.eval x) false o.type).run P w = .ok v w') : (execOp a.eval o).run P w = .ok (.value v) w' := by
  unfold execOp; rw [ho]; simp [h]
theorem run_entry {x : Operand} {v : Value} {w' : World} (ho : o.op = .entry x) (h : (Instr.entry (a.eval x)).run P w = .ok v w') : (execOp a.eval o).run P w = .ok (.value v) w' := by
  unfold execOp; rw [ho]; simp [h]
theorem run_range {t : TypeId} {x : Operand} {v : Value} {w' : World} (ho : o.op = .range t x) (h : (Instr.range t (a.eval x)).run P w = .ok v w') : (execOp a.eval o).run P w = .ok (.value v) w' := by
  unfold execOp; rw [ho]; simp [h]
theorem run_update {t : TypeId} {m k x : Operand} {w' : World} (ho : o.op = .mapUpdate t m k x) (h : (Instr.mapUpdate t (a.eval m) (a.eval k) (a.eval x)).run P w = .ok () w') : (execOp a.eval o).run P w = .ok .skip w' := by
  unfold execOp; rw [ho]; simp [h]
theorem run_alloc' {t : TypeId} {i : TypeInfo} {z : Value} (ho : o.op = .alloc t) (hi : P.info? t = some i) (hz : i.zero = some z) :
    (execOp a.eval o).run P w = .ok (.value (.pointer (some ⟨w.heap.size, 0, none⟩))) { w with heap := w.heap.push (.cells z.cells t) } := by
  unfold execOp; rw [ho]
  simp [Instr.alloc, zeroValue, typeInfo, hi, hz, newVar]
  rfl
theorem run_store' {t : TypeId} {p x : Operand} {r n : Nat} {c l : Array Value} {ty : TypeId} (ho : o.op = .store t p x) (hp : a.eval p = .pointer (some ⟨r, 0, none⟩)) (hx : a.eval x = .agg l) (hn : (Go.sizeOf t).run P w = .ok n w) (hl : l.size = n)
    (hr : w.heap[r]? = some (.cells c ty (0, 0))) (hc : c.size = n) (h1 : ∀ v ∈ l.toList, v.oneCell' = true) :
    (execOp a.eval o).run P w = .ok .skip (w.setRow r l) := by
  unfold execOp; rw [ho]
  have h := run_storeCells_row P r 0 ty 0 0 l.toList 0 c w hr (by omega) (by simp; omega) h1
  have e : (c.toList.take (0 + 0) ++ l.toList ++ c.toList.drop (0 + 0 + l.toList.length)).toArray = l := by
    rw [Nat.add_zero, List.take_zero, List.nil_append, List.drop_of_length_le (by simp; omega), List.append_nil]
  rw [e] at h
  have hc2 : (Value.agg l).cells = l := rfl
  simp [hp, hx, Instr.storeAt, Instr.sureAddr, storeVar, hn, hc2, hl, h]
theorem run_load' {t : TypeId} {p : Operand} {r n : Nat} {l : Array Value} {ty : TypeId} (ho : o.op = .load t p) (hp : a.eval p = .pointer (some ⟨r, 0, none⟩)) (hn : (Go.sizeOf t).run P w = .ok n w) (hl : l.size = n) (ht : (isAgg t).run P w = .ok true w)
    (hr : w.heap[r]? = some (.cells l ty (0, 0))) : (execOp a.eval o).run P w = .ok (.value (.agg l)) w := by
  unfold execOp; rw [ho]
  have h := run_loadCells_row P w r 0 n l ty (0, 0) hr (by omega)
  have e : ((l.toList.drop 0).take n).toArray = l := by
    rw [List.drop_zero, List.take_of_length_le (by simp; omega)]
  rw [e] at h
  simp [hp, Instr.loadAt, Instr.sureAddr, loadVar, ht, hn, h]
end
end Sim

/- Sim, part 42d: maps.Copy: its contract. -/
namespace Sim
open Go
open Go.ChangeMaps (setBlock)

/- what an entry that is laid changes -/
noncomputable def updL (a : Int) (x : CV) (es : List Ent) : List Ent := match lget a es with | some _ => lupd a x es | none => es ++ [(.int .i64 a, x, 0)]
theorem updL_eq (bd : Bp) (a : Int) (x : CV) (es : List Ent) (st : St) : pUpdL .int bd es (.int .i64 a) x st = .ok .undef (st.set bd (.lmap (updL a x es))) := by
  unfold pUpdL updL
  have : keyA .int (.int .i64 a) = some a := rfl
  rw [this]
  dsimp only
  cases lget a es with
  | some u => rfl
  | none => rfl
theorem updL_mem {a : Int} {x : CV} {es : List Ent} (hz : ∀ e ∈ es, e.2.2 = 0) : (∀ y ∈ updL a x es, y.2.2 = 0) ∧ ∀ y, y ∈ updL a x es ↔ y = (.int .i64 a, x, 0) ∨ (y ∈ es ∧ y.1 ≠ .int .i64 a) := by
  unfold updL
  cases hg : lget a es with
  | none =>
    have hno := lget_none hg
    refine ⟨fun y hy => ?_, fun y => ?_⟩
    · rcases List.mem_append.1 hy with h | h
      · exact hz y h
      · rw [List.mem_singleton.1 h]
    · constructor
      · intro h
        rcases List.mem_append.1 h with h | h
        · exact .inr ⟨h, hno y h⟩
        · exact .inl (List.mem_singleton.1 h)
      · rintro (rfl | ⟨h, _⟩)
        · exact List.mem_append.2 (.inr (List.mem_singleton.2 rfl))
        · exact List.mem_append.2 (.inl h)
  | some u =>
    obtain ⟨e0, h1, h2, _⟩ := lget_some hg
    have hm : ∀ y, y ∈ lupd a x es ↔ y = (.int .i64 a, x, 0) ∨ (y ∈ es ∧ y.1 ≠ .int .i64 a) := by
      intro y
      rw [lupd_map, List.mem_map]
      constructor
      · rintro ⟨e, he, rfl⟩
        split
        · rename_i hi
          have h3 := isA_iff.1 hi
          exact .inl (by rw [h3, hz e he])
        · rename_i hi
          exact .inr ⟨he, fun hh => hi (isA_iff.2 hh)⟩
      · rintro (rfl | ⟨h, hn⟩)
        · refine ⟨e0, h1, ?_⟩
          rw [if_pos (isA_iff.2 h2), h2, hz e0 h1]
        · exact ⟨y, h, by rw [if_neg (fun hh => hn (isA_iff.1 hh))]⟩
    refine ⟨fun y hy => ?_, hm⟩
    rcases (hm y).1 hy with rfl | ⟨h, _⟩
    · rfl
    · exact hz y h

theorem nodup_of_keys {es : List Ent} (h : (es.map (·.1)).Nodup) : es.Nodup := by
  unfold List.Nodup at h ⊢
  rw [List.pairwise_map] at h
  exact h.imp fun hab e => hab (by rw [e])
theorem nodup_inj {es : List Ent} (h : (es.map (·.1)).Nodup) {x y : Ent} (hx : x ∈ es) (hy : y ∈ es) (he : x.1 = y.1) : x = y := by
  obtain ⟨i, hi, rfl⟩ := List.getElem_of_mem hx
  obtain ⟨j, hj, rfl⟩ := List.getElem_of_mem hy
  have := (List.getElem_inj (i := i) (j := j) (h₀ := by simpa using hi) (h₁ := by simpa using hj) h).1 (by simpa using he)
  subst this; rfl

/- acts -/
theorem put_facts {a : Act} {d : Nat} {v : Value} (h : 16 ≤ a.tmps.size) (hd : d < 16) : ∃ a', a.put (some d) v = a' ∧ 16 ≤ a'.tmps.size ∧ a'.defers = a.defers ∧ a'.eval (.tmp d) = v ∧ ∀ k, k ≠ d → a'.eval (.tmp k) = a.eval (.tmp k) :=
  ⟨_, rfl, by simpa [Act.put] using h, rfl, eval_put_same (by omega), fun k hk => eval_put_ne (fun e => hk e.symm)⟩

section
variable {P : Program} {ρ : Ren} {st : St} {w : World}
theorem After.setset {st0 : St} {w0 : World} {b : Bp} {x y : Blk} (h : After ρ st0 w0 ρ ((st0.set b x).set b y) w) : After ρ st0 w0 ρ (st0.set b y) w :=
  After.silent h (fun q _ _ => by
    by_cases e : q = b
    · subst e; simp [St.set, PT.get_put_same]
    · simp [St.set, PT.get_put_ne _ _ _ _ e]) rfl

/-- What holds ahead of a round. -/
structure CopyInv (ρ : Ren) (st0 : St) (w0 : World) (bd : Bp) (rd rs it clk : Nat) (es' : List MapEntry) (pl S D : List Ent) (n : Nat) (a : Act) (w : World) : Prop where
  out : ∃ (cur q : List Ent) (seen : Array Nat) (c0 : Nat), After ρ st0 w0 ρ (st0.set bd (.lmap cur)) w ∧ (∀ x ∈ cur, x.2.2 = 0) ∧ (∀ x, x ∈ cur ↔ x ∈ q ∨ (x ∈ D ∧ ∀ y ∈ q, y.1 ≠ x.1)) ∧ (∀ y ∈ q, y ∈ S) ∧
    (∀ (i : Nat) (e : Ent) (e' : MapEntry), pl[i]? = some e → es'[i]? = some e' → seen.contains e'.born = true → ((e.1, e.2.1, 0) : Ent) ∈ q) ∧
    w.heap[it]? = some (.mapIter (some rs) clk seen c0) ∧ clk ≤ c0 ∧ (leftOf es'.toArray seen).size < n
  src : w.heap[rs]? = some (.map es'.toArray clk)
  size : 16 ≤ a.tmps.size
  dst : a.eval (.tmp 0) = .map (some rd)
  iter : a.eval (.tmp 7) = .pointer (some ⟨it, 0, none⟩)
  defers : a.defers = []

theorem copyG_sound {call : CallF} {f n : Nat} (hf : CopyFn P f n) {args : List CV} {st' : St} {v : CV} (h : copyG n call args st = .ok v st') : CallOut P f args st v st' := by
  obtain ⟨fn, t, kt, et, d0, R0, R1, R2, R3, o0, o1, o2, o3, o4, o5, o6, o7, o8, o9, p0, p1, p2, p3, hfn, hcall, hres, htm, hbody, hR0, hR1, hR2, hR3, hg, ⟨x0, y0⟩, ⟨x1, y1⟩, ⟨x2, y2⟩, ⟨x3, y3⟩, ⟨x4, y4⟩, ⟨x5, y5⟩, ⟨x6, y6⟩, ⟨x7, y7⟩, ⟨x8, y8⟩, ⟨x9, y9⟩, ⟨z0, u0⟩, ⟨z1, u1⟩, ⟨z2, u2⟩, ⟨z3, u3⟩, hund, hdesc, hd0, hdeep, ⟨ti, tz, hti, htz, htn, htc⟩, hagg⟩ := hf.out
  unfold copyG at h
  split at h
  · rename_i bd bs
    rw [bsel_eq] at h
    split at h
    · cases h
    · rename_i hne
      have hne : bd ≠ bs := fun e => hne (bpEq_iff.2 e)
      split at h
      · rename_i d s hd hs
        simp only [bsel_eq, forceE_eq] at h
        split at h
        · rename_i hh
          rw [Bool.and_eq_true, Bool.and_eq_true] at hh
          obtain ⟨hkd, hks, hvals⟩ := hh
          cases h
          refine .inl ⟨hcall, fun ρ w args' hw ha => ?_⟩
          obtain ⟨x', t1, e1, hx, ha2⟩ := ha.inv
          obtain ⟨y', t2, e2, hy, ha3⟩ := ha2.inv
          have e3 : t2 = [] := by have := ha3.len; simpa using this.symm
          subst e3; subst e2
          have e4 : args' = #[x', y'] := by rw [← Array.toArray_toList (xs := args'), e1]
          subst e4
          cases hx with
          | map _ rd szd hrd =>
          cases hy with
          | map _ rs szs hrs =>
          obtain ⟨clk, es', pl, hms, hpl, hval, hst, hik, hnd, hlen⟩ := loose_of hw hs hks hrs
          obtain ⟨_, _, _, _, _, _, _, hikd, hndd, _⟩ := loose_of hw hd hkd hrd
          obtain ⟨bld, hbld⟩ : ∃ blk, st.mem.get bd = some blk := by
            cases hb : st.mem.get bd with
            | some x => exact ⟨x, rfl⟩
            | none => rw [hb] at hd; cases hd
          obtain ⟨bls, hbls⟩ : ∃ blk, st.mem.get bs = some blk := by
            cases hb : st.mem.get bs with
            | some x => exact ⟨x, rfl⟩
            | none => rw [hb] at hs; cases hs
          have hrne : rd ≠ rs := fun e => hne (hw.inj bd bs _ _ rd szd szs hbld hbls hrd (by rw [e]; exact hrs))
          have hreal : ∀ b blk r sz, st.mem.get b = some blk → ρ b = some (r, sz) → r < w.heap.size := fun b blk r sz h1 h2 => by
            obtain ⟨o, g1, _⟩ := hw.at' b blk r sz h1 h2
            exact (Array.getElem?_eq_some_iff.1 g1).1
          have hrdl : rd < w.heap.size := hreal _ _ _ _ hbld hrd
          have hrsl : rs < w.heap.size := hreal _ _ _ _ hbls hrs
          have hA0 := After.loosen hw hd hkd hrd
          have hunk : ∀ (k : Nat) (cur : Blk), w.heap.size ≤ k → ∀ b blk sz, (st.set bd cur).mem.get b = some blk → ρ b ≠ some (k, sz) := fun k cur hk b blk sz h1 h2 => by
            by_cases e : b = bd
            · subst e; rw [hrd] at h2; cases h2; omega
            · simp only [St.set, PT.get_put_ne _ _ _ _ e] at h1
              have := hreal b blk k sz h1 h2; omega
          have hsz : ∀ w : World, (Go.sizeOf et).run P w = .ok n w := fun w => by rw [sizeOf_run hti, htn]
          -- the rounds
          have rounds : ∀ (m : Nat) (a : Act) (w1 : World), CopyInv ρ st w bd rd rs w.heap.size clk es' pl (stripE s) (stripE d) m a w1 →
              Code.rounds P (.seq (.region 1 R1 false) (.seq (.cond (.tmp 9) .skip (.exit 0)) (.block 1 (.seq (.region 2 R2 false) (.region 3 R3 false)))))
                (Exit.inBlock 0 (bodyPost P fn fun e w' => ∃ v' ρ', e = .returned v' ∧ VR ρ' .undef v' ∧ After ρ st w ρ' ⟨st.mem.put bd (some (.lmap (mergeL (stripE d) (stripE s)))), st.next⟩ w')) m a w1 := by
            intro m
            induction m with
            | zero => intro a w1 hI; obtain ⟨_, _, _, _, _, _, _, _, _, _, _, hlt⟩ := hI.out; omega
            | succ m ih =>
              intro a w1 hI
              obtain ⟨cur, q, seen, c0, hA, hzc, hmem, hqS, hseen, hit, hcc, hlt⟩ := hI.out
              rw [rounds_succ]
              apply wp_seq
              apply wp_region_list
              rw [hR1]
              rcases run_next_at (P := P) w1 o2.type w.heap.size rs clk c0 seen es'.toArray clk hit hI.src (fun x hx => hst.1 x hx) hcc with ⟨hz, hrun⟩ | ⟨e, he, w1', hw1', hrun⟩
              · refine stepV (hg o2 (by simp)) (run_next x2 (by rw [hI.iter]; exact hrun)) ?_
                rw [y2]
                obtain ⟨a1, ea1, s1, f1, v1, k1⟩ := put_facts (v := .tuple #[.bool false]) hI.size (show 8 < 16 by decide)
                rw [ea1]
                refine stepV (hg o3 (by simp)) (run_extract (v := .bool false) x3 v1 rfl) ?_
                rw [y3]
                obtain ⟨a2, ea2, s2, f2, v2, k2⟩ := put_facts (v := .bool false) s1 (show 9 < 16 by decide)
                rw [ea2]
                refine wpList_nil ?_
                apply wp_seq
                refine wp_cond_false v2 (wp_exit ?_)
                refine ⟨by rw [f2, f1]; exact hI.defers, .tuple #[], ?_, .tuple #[], ρ, rfl, .undef, ?_⟩
                · unfold results
                  rw [hres, Array.mapM_eq_mapM_toList]
                  rfl
                · have hall := all_seen es'.toArray seen hz
                  have hSq : ∀ y ∈ stripE s, y ∈ q := by
                    intro y hy
                    rw [stripE_map] at hy
                    obtain ⟨e, he, rfl⟩ := List.mem_map.1 hy
                    obtain ⟨i, hi, rfl⟩ := List.getElem_of_mem (hpl.mem_iff.2 he)
                    have hi2 : i < es'.length := by omega
                    exact hseen i pl[i] es'[i] (List.getElem?_eq_getElem hi) (List.getElem?_eq_getElem hi2) (hall _ (by simp))
                  obtain ⟨o, g1, g2⟩ := hA.wr.at' bd (.lmap cur) rd szd (by simp [St.set, PT.get_put_same]) hrd
                  cases g2 with
                  | lmap _ l clock' es2 hp hi hn hs2 hl hv =>
                    have hperm : cur.Perm (mergeL (stripE d) (stripE s)) := by
                      refine (List.perm_ext_iff_of_nodup (nodup_of_keys hn) (nodup_of_keys (mergeL_nodup (strip_nodup hnd) (strip_keys hikd) (strip_nodup hndd)))).2 fun x => ?_
                      rw [hmem x, mergeL_mem (strip_keys hikd) x]
                      constructor
                      · rintro (h | ⟨h1, h2⟩)
                        · exact .inl (hqS x h)
                        · exact .inr ⟨h1, fun y hy => h2 y (hSq y hy)⟩
                      · rintro (h | ⟨h1, h2⟩)
                        · exact .inl (hSq x h)
                        · exact .inr ⟨h1, fun y hy => h2 y (hqS y hy)⟩
                    refine After.setset (x := .lmap cur) (hA.trans ?_)
                    exact After.set (blk0 := .lmap cur) hA.wr (by simp [St.set, PT.get_put_same]) hrd g1
                      (.lmap _ l clock' es2 (hp.trans hperm) (mergeL_keys (strip_keys hikd) (strip_keys hik)) (mergeL_nodup (strip_nodup hnd) (strip_keys hikd) (strip_nodup hndd)) hs2 hl hv szd) (fun _ _ => rfl) rfl rfl rfl
              · obtain ⟨hee, hns⟩ := mem_left he
                obtain ⟨i, hi, hei⟩ := List.getElem_of_mem (show e ∈ es' from by simpa using hee)
                have hil : i < pl.length := by omega
                obtain ⟨hvk, hvv⟩ := hval i pl[i] e (List.getElem?_eq_getElem hil) (by rw [← hei]; exact List.getElem?_eq_getElem hi)
                have hps : pl[i] ∈ s := hpl.mem_iff.1 (List.getElem_mem hil)
                obtain ⟨ka, hka⟩ := hik _ hps
                have hkk : e.key = .int .i64 ka := by rw [hka] at hvk; exact intKey hvk
                have hvo := (allL_iff.1 hvals) _ hps
                obtain ⟨sg, hsg, hsgn, hone⟩ : ∃ sg, pl[i].2.1 = .agg sg ∧ sg.size = n ∧ oneCells sg = true := by
                  clear hvk hka hvv
                  revert hvo
                  generalize pl[i].2.1 = xx
                  intro hvo
                  split at hvo
                  · rename_i sg
                    rw [Bool.and_eq_true, Nat.beq_eq] at hvo
                    exact ⟨sg, rfl, hvo.1, hvo.2⟩
                  · cases hvo
                obtain ⟨l', hl', hVl⟩ : ∃ l' : List Value, e.val = .agg l'.toArray ∧ VRs ρ (row sg) l' := by
                  have hvv' := hvv
                  rw [hsg] at hvv'
                  generalize e.val = ev at hvv'
                  cases hvv' with
                  | agg _ l hl hh => exact ⟨l, rfl, VRs.mk hl hh⟩
                have hll : l'.toArray.size = n := by
                  have := hVl.len
                  rw [row_length] at this
                  simp; omega
                refine stepV (hg o2 (by simp)) (run_next x2 (by rw [hI.iter]; exact hrun)) ?_
                rw [y2]
                obtain ⟨a1, ea1, s1, f1, v1, k1⟩ := put_facts (v := .tuple #[.bool true, e.key, e.val]) hI.size (show 8 < 16 by decide)
                rw [ea1]
                refine stepV (hg o3 (by simp)) (run_extract (v := .bool true) x3 v1 rfl) ?_
                rw [y3]
                obtain ⟨a2, ea2, s2, f2, v2, k2⟩ := put_facts (v := .bool true) s1 (show 9 < 16 by decide)
                rw [ea2]
                refine wpList_nil ?_
                apply wp_seq
                refine wp_cond_true v2 (wp_skip ?_)
                apply wp_block
                apply wp_seq
                apply wp_region_list
                rw [hR2]
                -- the world behind the step
                generalize hw2 : setBlock w1' w.heap.size (.mapIter (some rs) clk (seen.push e.born) clk) = w2
                have hh1 : w1'.heap = w1.heap ∧ w1'.os = w1.os ∧ w1'.output = w1.output := by rcases hw1' with rfl | rfl <;> exact ⟨rfl, rfl, rfl⟩
                have hsz1 := hA.size
                have hits : w.heap.size < w1.heap.size := (Array.getElem?_eq_some_iff.1 hit).1
                have h2s : w2.heap.size = w1.heap.size := by rw [← hw2]; simp [setBlock, hh1.1]
                have h2o : ∀ r, r ≠ w.heap.size → w2.heap[r]? = w1.heap[r]? := fun r hr => by rw [← hw2]; simp only [setBlock, hh1.1]; rw [Array.getElem?_setIfInBounds_ne (fun e => hr e.symm)]
                have h2i : w2.heap[w.heap.size]? = some (.mapIter (some rs) clk (seen.push e.born) clk) := by rw [← hw2]; simp [setBlock, hh1.1, hits]
                have h2os : w2.os = w.os := by rw [← hw2]; exact hh1.2.1.trans hA.os
                have h2out : w2.output = w.output := by rw [← hw2]; exact hh1.2.2.trans hA.output
                have hA2 : After ρ st w ρ (st.set bd (.lmap cur)) w2 := hA.unk hw.glob w.heap.size (Nat.le_refl _) (hunk _ _ (Nat.le_refl _)) (by omega) (fun r _ hr => h2o r hr) (h2os.trans hA.os.symm) (h2out.trans hA.output.symm)
                have h2src : w2.heap[rs]? = some (.map es'.toArray clk) := by rw [h2o rs (by omega)]; exact hI.src
                -- entry, extract, extract
                have i2 : a2.eval (.tmp 7) = .pointer (some ⟨w.heap.size, 0, none⟩) := by rw [k2 7 (by decide), k1 7 (by decide)]; exact hI.iter
                refine stepV (hg o4 (by simp)) (run_entry x4 (by rw [i2]; exact run_entry_at w2 w.heap.size rs clk seen es'.toArray clk e h2i h2src hee hst.2.1)) ?_
                rw [y4]
                obtain ⟨a3, ea3, s3, f3, v3, k3⟩ := put_facts (v := .tuple #[e.key, e.val]) s2 (show 10 < 16 by decide)
                rw [ea3]
                refine stepV (hg o5 (by simp)) (run_extract (v := e.key) x5 v3 rfl) ?_
                rw [y5]
                obtain ⟨a4, ea4, s4, f4, v4, k4⟩ := put_facts (v := e.key) s3 (show 11 < 16 by decide)
                rw [ea4]
                refine stepV (hg o6 (by simp)) (run_extract (v := e.val) x6 (by rw [k4 10 (by decide)]; exact v3) rfl) ?_
                rw [y6]
                obtain ⟨a5, ea5, s5, f5, v5, k5⟩ := put_facts (v := e.val) s4 (show 12 < 16 by decide)
                rw [ea5]
                -- alloc
                refine stepV (hg o7 (by simp)) (run_alloc' x7 hti htz) ?_
                rw [y7]
                obtain ⟨a6, ea6, s6, f6, v6, k6⟩ := put_facts (v := .pointer (some ⟨w2.heap.size, 0, none⟩)) s5 (show 5 < 16 by decide)
                rw [ea6]
                generalize hw3 : ({ w2 with heap := w2.heap.push (.cells tz.cells et) } : World) = w3
                have h3s : w3.heap.size = w2.heap.size + 1 := by rw [← hw3]; simp
                have h3o : ∀ r, r < w2.heap.size → w3.heap[r]? = w2.heap[r]? := fun r hr => by rw [← hw3]; show (w2.heap.push _)[r]? = _; rw [Array.getElem?_push, if_neg (by omega)]
                have h3n : w3.heap[w2.heap.size]? = some (.cells tz.cells et (0, 0)) := by rw [← hw3]; show (w2.heap.push _)[_]? = _; simp
                have hA3 : After ρ st w ρ (st.set bd (.lmap cur)) w3 := hA2.unk hw.glob w2.heap.size hA2.size (hunk _ _ hA2.size) (by omega) (fun r hr _ => h3o r hr) (by rw [← hw3]) (by rw [← hw3])
                -- assign
                refine stepV (hg o8 (by simp)) (run_assign x8) ?_
                rw [y8, show a6.eval (.tmp 11) = e.key from by rw [k6 11 (by decide), k5 11 (by decide)]; exact v4]
                obtain ⟨a7, ea7, s7, f7, v7, k7⟩ := put_facts (v := e.key) s6 (show 4 < 16 by decide)
                rw [ea7]
                -- store
                refine stepU (hg o9 (by simp)) (run_store' (l := l'.toArray) (n := n) x9 (by rw [k7 5 (by decide)]; exact v6) (by rw [k7 12 (by decide), k6 12 (by decide), v5, hl']) (hsz w3) hll h3n htc (fun v hv => ?_)) ?_
                · obtain ⟨j, hj, rfl⟩ := List.getElem_of_mem hv
                  have hj2 : j < l'.length := by simpa using hj
                  have hj3 : j < (row sg).length := by rw [hVl.len]; exact hj2
                  exact oneCell_real (hVl.at' j (row sg)[j] _ (by simp) (by simp)) (oneCells_row sg hone _ (List.getElem_mem _))
                rw [y9]
                generalize hw4 : w3.setRow w2.heap.size l'.toArray = w4
                have h4s : w4.heap.size = w3.heap.size := by rw [← hw4]; exact setRow_size _ _ _
                have h4o : ∀ r, r ≠ w2.heap.size → w4.heap[r]? = w3.heap[r]? := fun r hr => by rw [← hw4]; exact setRow_other _ _ _ _ hr
                have h4n : w4.heap[w2.heap.size]? = some (.cells l'.toArray et (0, 0)) := by rw [← hw4]; exact setRow_heap _ _ _ _ _ _ h3n
                have hA4 : After ρ st w ρ (st.set bd (.lmap cur)) w4 := hA3.unk hw.glob w2.heap.size hA2.size (hunk _ _ hA2.size) (by omega) (fun r _ hr => h4o r hr) (by rw [← hw4]; rfl) (by rw [← hw4]; rfl)
                refine wpList_nil ?_
                apply wp_region_list
                rw [hR3]
                have a7e : ∀ k, a7.put none undef = a7 ∨ k = 0 := fun _ => .inl rfl
                have ea7n : a7.put none undef = a7 := rfl
                rw [ea7n]
                -- moves
                have e0 : a7.eval (.tmp 0) = .map (some rd) := by rw [k7 0 (by decide), k6 0 (by decide), k5 0 (by decide), k4 0 (by decide), k3 0 (by decide), k2 0 (by decide), k1 0 (by decide)]; exact hI.dst
                have e7 : a7.eval (.tmp 7) = .pointer (some ⟨w.heap.size, 0, none⟩) := by rw [k7 7 (by decide), k6 7 (by decide), k5 7 (by decide), k4 7 (by decide), k3 7 (by decide)]; exact i2
                have e5 : a7.eval (.tmp 5) = .pointer (some ⟨w2.heap.size, 0, none⟩) := by rw [k7 5 (by decide)]; exact v6
                refine stepV (hg p0 (by simp)) (run_move z0) ?_
                rw [u0, e0]
                obtain ⟨a8, ea8, s8, f8, v8, k8⟩ := put_facts (v := .map (some rd)) s7 (show 13 < 16 by decide)
                rw [ea8]
                refine stepV (hg p1 (by simp)) (run_move z1) ?_
                rw [u1, show a8.eval (.tmp 4) = e.key from by rw [k8 4 (by decide)]; exact v7]
                obtain ⟨a9, ea9, s9, f9, v9, k9⟩ := put_facts (v := e.key) s8 (show 14 < 16 by decide)
                rw [ea9]
                refine stepV (hg p2 (by simp)) (run_load' z2 (by rw [k9 5 (by decide), k8 5 (by decide)]; exact e5) (hsz w4) hll (hagg w4) h4n) ?_
                rw [u2]
                obtain ⟨aa, eaa, sa, fa, va, kka⟩ := put_facts (v := .agg l'.toArray) s9 (show 15 < 16 by decide)
                rw [eaa]
                -- the update
                have hisk : isKey .int (.int .i64 ka) = true := by
                  unfold isKey
                  have : ceq .int (.int .i64 ka) (.int .i64 ka) = some (zeq ka ka) := rfl
                  rw [this, (zeq_iff ka ka).2 rfl]; rfl
                obtain ⟨_, es5, clk5, hr5, hA5⟩ := pUpdL_run (updL_eq bd ka (.agg sg) cur (st.set bd (.lmap cur))) hA4.wr (by simp [St.set, PT.get_put_same]) hrd (k' := e.key) (y' := .agg l'.toArray) (by rw [← hka]; exact hvk) (by rw [← hsg, ← hl']; exact hvv) hund hdesc hd0
                  (fun ee => isKey_sound hisk hdesc hd0 hdeep (by rw [← hka]; exact hvk) ee)
                refine stepU (hg p3 (by simp)) (run_update z3 (by rw [kka 13 (by decide), kka 14 (by decide), va, k9 13 (by decide), v8, v9]; exact hr5)) ?_
                rw [u3, show aa.put none undef = aa from rfl]
                refine wpList_nil ?_
                -- the next round
                apply ih
                generalize hw5 : ({ w4 with heap := w4.heap.setIfInBounds rd (.map es5.toArray clk5) } : World) = w5
                rw [hw5] at hA5
                have h5o : ∀ r, r ≠ rd → w5.heap[r]? = w4.heap[r]? := fun r hr => by rw [← hw5]; show (w4.heap.setIfInBounds rd _)[r]? = _; rw [Array.getElem?_setIfInBounds_ne (fun e => hr e.symm)]
                have hchain : ∀ r, r ≠ rd → r < w2.heap.size → w5.heap[r]? = w2.heap[r]? := fun r h1 h2 => by rw [h5o r h1, h4o r (by omega), h3o r h2]
                refine ⟨⟨updL ka (.agg sg) cur, (pl[i].1, pl[i].2.1, 0) :: q, seen.push e.born, clk, (hA4.trans hA5).setset, ?_, ?_, ?_, ?_, ?_, Nat.le_refl _, ?_⟩, ?_, sa, ?_, ?_, ?_⟩
                · exact (updL_mem hzc).1
                · intro x
                  have hS : ((pl[i].1, pl[i].2.1, 0) : Ent) ∈ stripE s := by rw [stripE_map]; exact List.mem_map.2 ⟨_, hps, rfl⟩
                  have huniq : ∀ x ∈ stripE s, x.1 = pl[i].1 → x = (pl[i].1, pl[i].2.1, 0) := fun x hx hx1 => nodup_inj (strip_nodup hnd) hx hS hx1
                  rw [(updL_mem hzc).2 x, hmem x, ← hsg, ← hka]
                  constructor
                  · rintro (rfl | ⟨h1 | ⟨h1, h2⟩, h3⟩)
                    · exact .inl (List.mem_cons_self ..)
                    · exact .inl (List.mem_cons_of_mem _ h1)
                    · refine .inr ⟨h1, fun y hy => ?_⟩
                      rcases List.mem_cons.1 hy with rfl | hy
                      · exact fun e => h3 e.symm
                      · exact h2 y hy
                  · rintro (h1 | ⟨h1, h2⟩)
                    · rcases List.mem_cons.1 h1 with rfl | h1
                      · exact .inl rfl
                      · by_cases hx : x.1 = pl[i].1
                        · exact .inl (huniq x (hqS x h1) hx)
                        · exact .inr ⟨.inl h1, hx⟩
                    · exact .inr ⟨.inr ⟨h1, fun y hy => h2 y (List.mem_cons_of_mem _ hy)⟩, fun e => h2 _ (List.mem_cons_self ..) e.symm⟩
                · intro y hy
                  rcases List.mem_cons.1 hy with rfl | hy
                  · rw [stripE_map]; exact List.mem_map.2 ⟨_, hps, rfl⟩
                  · exact hqS y hy
                · intro j e1 e1' g1 g2 g3
                  rw [contains_push, Bool.or_eq_true] at g3
                  rcases g3 with g3 | g3
                  · exact List.mem_cons_of_mem _ (hseen j e1 e1' g1 g2 g3)
                  · have hb := beq_iff_eq.1 g3
                    have hj : j < es'.length := (List.getElem?_eq_some_iff.1 g2).1
                    have hje : es'[j] = e1' := (List.getElem?_eq_some_iff.1 g2).2
                    have hij : j = i := by
                      have hnb := hst.2.1
                      rw [List.toList_toArray] at hnb
                      have := (List.getElem_inj (i := j) (j := i) (h₀ := by simpa using hj) (h₁ := by simpa using hi) hnb).1 (by simp [hje, hei, hb])
                      exact this
                    subst hij
                    have : e1 = pl[j] := by rw [List.getElem?_eq_getElem hil] at g1; exact (Option.some.inj g1).symm
                    rw [this]
                    exact List.mem_cons_self ..
                · rw [hchain _ (by omega) (by omega)]; exact h2i
                · have := left_shrinks es'.toArray seen e he; omega
                · rw [hchain rs (fun e => hrne e.symm) (by omega)]; exact h2src
                · rw [kka 0 (by decide), k9 0 (by decide), k8 0 (by decide)]; exact e0
                · rw [kka 7 (by decide), k9 7 (by decide), k8 7 (by decide)]; exact e7
                · rw [fa, f9, f8, f7, f6, f5, f4, f3, f2, f1]; exact hI.defers
          -- the start
          refine calls_of_wp hfn hbody ?_
          apply wp_seq
          apply wp_region_list
          rw [hR0]
          generalize ha0 : ({ tmps := #[Value.map (some rd), Value.map (some rs)] ++ Array.replicate (fn.ntmps - (#[Value.map (some rd), Value.map (some rs)] : Array Value).size) undef, defers := [] } : Act) = a0
          have s0 : 16 ≤ a0.tmps.size := by rw [← ha0]; simp; omega
          have g0 : a0.eval (.tmp 0) = .map (some rd) := by rw [← ha0]; simp [Act.eval, Array.getElem?_append]
          have g1 : a0.eval (.tmp 1) = .map (some rs) := by rw [← ha0]; simp [Act.eval, Array.getElem?_append]
          refine stepV (hg o0 (by simp)) (run_move x0) ?_
          rw [y0, g1]
          obtain ⟨a1, ea1, s1, f1, v1, k1⟩ := put_facts (v := .map (some rs)) s0 (show 6 < 16 by decide)
          rw [ea1]
          refine stepV (hg o1 (by simp)) (run_range x1 (by rw [v1]; exact run_range_map w t kt et rs es'.toArray clk hund hms)) ?_
          rw [y1]
          obtain ⟨a2, ea2, s2, f2, v2, k2⟩ := put_facts (v := .pointer (some ⟨w.heap.size, 0, none⟩)) s1 (show 7 < 16 by decide)
          rw [ea2]
          refine wpList_nil ?_
          apply wp_block
          refine wp_loop_rounds ((leftOf es'.toArray #[]).size + 1) (rounds _ _ _ ⟨⟨stripE d, [], #[], clk, ?_, ?_, ?_, ?_, ?_, heap_alloc_new _ _, Nat.le_refl _, by omega⟩, ?_, s2, ?_, v2, ?_⟩)
          · exact hA0.unk hw.glob w.heap.size (Nat.le_refl _) (hunk _ _ (Nat.le_refl _)) (by show _ ≤ (w.heap.push _).size; simp) (fun r hr _ => heap_alloc_old w _ hr) rfl rfl
          · intro x hx; rw [stripE_map] at hx; obtain ⟨e, _, rfl⟩ := List.mem_map.1 hx; rfl
          · intro x; simp
          · intro y hy; cases hy
          · intro i e e' _ _ hc; simp at hc
          · rw [heap_alloc_old w _ hrsl]; exact hms
          · rw [k2 0 (by decide), k1 0 (by decide)]; exact g0
          · rw [f2, f1, ← ha0]
        · cases h
      · cases h
  · cases h
end
end Sim

/- Sim, part 43: calls whose arguments and answer bear no pointer: asked in an empty memory, so that the kernel asks but once. -/
namespace Sim
open Go

noncomputable def flatC (v : CV) : Bool := match v with | .bool _ | .int _ _ | .str _ _ | .nilptr | .nilslice | .nilmap | .nilfunc | .niliface => true | _ => false
noncomputable def flatS (s : Segs CV) : Bool := Segs.rec (motive := fun _ => Bool) true (fun v _ ih => Bool.and (flatC v) ih) (fun _ _ _ ih => ih) s
noncomputable def flatV (v : CV) : Bool :=
  match v with
  | .undef | .bool _ | .int _ _ | .str _ _ | .nilptr | .nilslice | .nilmap | .nilfunc | .niliface => true
  | .agg s => flatS s
  | _ => false
noncomputable def flatT (v : CV) : Bool := match v with | .tuple s => Segs.rec (motive := fun _ => Bool) true (fun v _ ih => Bool.and (flatV v) ih) (fun _ _ _ ih => ih) s | v => flatV v
def noRen : Ren := fun _ => none
theorem flat1 {ρ ρ' : Ren} {v : CV} {v' : Value} (h : flatC v = true) (hv : VR ρ v v') : VR ρ' v v' := by
  cases hv <;> first | (cases h; done) | constructor
theorem flatS_VRs {ρ ρ' : Ren} : ∀ {s : Segs CV} {l : List Value}, flatS s = true → VRs ρ (row s) l → VRs ρ' (row s) l := by
  intro s
  induction s with
  | nil => intro l _ h; exact ⟨h.len, fun i v v' a => by simp [row, Segs.cells] at a⟩
  | one v r ih =>
    intro l h hv
    have h : Bool.and (flatC v) (flatS r) = true := h
    rw [Bool.and_eq_true] at h
    obtain ⟨v', t', rfl, h1, h2⟩ := hv.inv
    exact VRs.cons (flat1 h.1 h1) (ih h.2 h2)
  | bytes n val r ih =>
    intro l h hv
    have h : flatS r = true := h
    have e : row (Segs.bytes n val r) = (ub n val).map byteV ++ row r := rfl
    rw [e] at hv ⊢
    have hl : l = l.take ((ub n val).map byteV).length ++ l.drop ((ub n val).map byteV).length := (List.take_append_drop _ _).symm
    have h1 : VRs ρ ((ub n val).map byteV) (l.take ((ub n val).map byteV).length) := by
      have := hv.take ((ub n val).map byteV).length
      rwa [List.take_left'] at this; rfl
    have h2 : VRs ρ (row r) (l.drop ((ub n val).map byteV).length) := by
      have := hv.drop ((ub n val).map byteV).length
      rwa [List.drop_left'] at this; rfl
    rw [hl]
    refine VRs.app ⟨h1.len, fun i v v' a b => ?_⟩ (ih h h2)
    have hx := h1.at' i v v' a b
    rw [List.getElem?_map] at a
    cases hu : (ub n val)[i]? with
    | none => rw [hu] at a; cases a
    | some x => rw [hu] at a; cases a; cases hx; exact .int _ _
theorem flatV_VR {ρ ρ' : Ren} {v : CV} {v' : Value} (h : flatV v = true) (hv : VR ρ v v') : VR ρ' v v' := by
  cases hv <;> first | (cases h; done) | skip
  all_goals first
    | exact .undef | exact .bool _ | exact .int _ _ | exact .str _ _ | exact .nilptr | exact .nilslice | exact .nilmap | exact .nilfunc | exact .niliface
    | skip
  rename_i s l hl hh
  exact VR.agg' (flatS_VRs h ⟨hl, hh⟩)
theorem flatT_VR {ρ ρ' : Ren} {v : CV} {v' : Value} (h : flatT v = true) (hv : VR ρ v v') : VR ρ' v v' := by
  by_cases ht : ∃ s, v = .tuple s
  · obtain ⟨s, rfl⟩ := ht
    cases hv with
    | tuple _ l hl hh =>
      have key : ∀ (s : Segs CV) (l : List Value), Segs.rec (motive := fun _ => Bool) true (fun v _ ih => Bool.and (flatV v) ih) (fun _ _ _ ih => ih) s = true → VRs ρ (row s) l → VRs ρ' (row s) l := by
        intro s
        induction s with
        | nil => intro l _ h; exact ⟨h.len, fun i v v' a => by simp [row, Segs.cells] at a⟩
        | one v r ih =>
          intro l h hv
          simp only [Bool.and_eq_true] at h
          obtain ⟨v', t', rfl, h1, h2⟩ := hv.inv
          exact VRs.cons (flatV_VR h.1 h1) (ih _ h.2 h2)
        | bytes n val r ih =>
          intro l h hv
          have e : row (Segs.bytes n val r) = (ub n val).map byteV ++ row r := rfl
          rw [e] at hv ⊢
          have hl : l = l.take ((ub n val).map byteV).length ++ l.drop ((ub n val).map byteV).length := (List.take_append_drop _ _).symm
          have h1 : VRs ρ ((ub n val).map byteV) (l.take ((ub n val).map byteV).length) := by
            have := hv.take ((ub n val).map byteV).length
            rwa [List.take_left'] at this; rfl
          have h2 : VRs ρ (row r) (l.drop ((ub n val).map byteV).length) := by
            have := hv.drop ((ub n val).map byteV).length
            rwa [List.drop_left'] at this; rfl
          rw [hl]
          refine VRs.app ⟨h1.len, fun i v v' a b => ?_⟩ (ih _ h h2)
          have hx := h1.at' i v v' a b
          rw [List.getElem?_map] at a
          cases hu : (ub n val)[i]? with
          | none => rw [hu] at a; cases a
          | some x => rw [hu] at a; cases a; cases hx; exact .int _ _
      exact VR.tuple' (key s l h ⟨hl, hh⟩)
  · refine flatV_VR ?_ hv
    unfold flatT at h
    split at h
    · exact absurd ⟨_, rfl⟩ ht
    · exact h
/-- What a call in an empty memory leaves of the one that is there. -/
theorem CallOK.flat {P : Program} {f : Nat} {args : List CV} {v : CV} {s' : St} (h : CallOK P f args ⟨.nil, .e⟩ v s') (ha : allL args flatV = true) (hv : flatT v = true) (st : St) : CallOK P f args st v st := by
  intro ρ w args' hw hargs
  have hw0 : WR noRen ⟨.nil, .e⟩ w := ⟨fun b blk r sz _ h => (by cases h), fun b b' k k' r s s' _ _ h => (by cases h), fun b x h => (by cases h), hw.glob.keep (fun b blk r sz h _ => by cases h) (fun _ _ _ => rfl)⟩
  rw [allL_iff] at ha
  refine (h noRen w args' hw0 ⟨hargs.len, fun i v v' a b => flatV_VR (ha v (List.mem_of_getElem? a)) (hargs.at' i v v' a b)⟩).mono ?_
  rintro e w' ⟨v', ρ', rfl, hvr, hA⟩
  refine ⟨v', ρ, rfl, flatT_VR hv hvr, ?_⟩
  have hk : ∀ r, r < w.heap.size → w'.heap[r]? = w.heap[r]? := fun r hr => hA.kept r hr fun b blk sz _ h => (by cases h)
  exact ⟨⟨fun b blk r sz h1 h2 => by
      obtain ⟨o, e2, e3⟩ := hw.at' b blk r sz h1 h2
      exact ⟨o, by rw [hk r (Array.getElem?_eq_some_iff.1 e2).1]; exact e2, e3⟩, hw.inj, hw.fresh, hw.glob.keep (fun b blk _ sz h1 h2 => .inl ⟨b, blk, sz, h1, h2⟩) (fun r hr _ => hk r hr)⟩, fun _ _ h => h, fun _ _ h => h, Nat.le_refl _, fun b blk _ sz h1 h2 => .inl ⟨b, blk, sz, h1, h2⟩,
    fun r hr _ => hk r hr, hA.size, hA.os, hA.output⟩

noncomputable def forceVL (l : List CV) : (List CV → OR) → OR := List.rec (motive := fun _ => (List CV → OR) → OR) (fun k => k []) (fun v _ ih k => forceVO v fun v => ih fun r => k (v :: r)) l
theorem forceVL_eq : ∀ (l : List CV) (k : List CV → OR), forceVL l k = k l := by
  intro l
  induction l with
  | nil => intro k; rfl
  | cons v l ih =>
    intro k
    have e : forceVL (v :: l) k = forceVO v fun v => forceVL l fun r => k (v :: r) := rfl
    rw [e, forceVO_eq, ih]
noncomputable def flatG (F : FunX) : FunX := fun call args st => forceVL args fun args =>
  bsel (allL args flatV) (OR.rec (motive := fun _ => OR) (fun v _ => bsel (flatT v) (.ok v st) (F call args st)) (F call args st) (F call args ⟨.nil, .e⟩)) (F call args st)
theorem flatG_sound {P : Program} {f : Nat} {call : CallF} {F : FunX} (hm : P.follows .mixedOrders = true) (hF : funXK P f = some F) (hc : CallSound P call) (args : List CV) (st : St) (v : CV) (st' : St) (h : flatG F call args st = .ok v st') : CallOut P f args st v st' := by
  have plain : ∀ args st v st', F call args st = .ok v st' → callable P f = true ∧ CallOK P f args st v st' := fun args st v st' h => by
    rcases funXK_ok hF call args st with h1 | h1
    · rw [h1] at h; cases h
    · rw [h1] at h
      exact enterC_sound hc (runDraw2_sound hm) h
  left
  unfold flatG at h
  rw [forceVL_eq, bsel_eq] at h
  split at h
  · rename_i ha
    cases hr : F call args ⟨.nil, .e⟩ with
    | bad => rw [hr] at h; exact plain _ _ _ _ h
    | ok v1 s1 =>
      rw [hr] at h
      dsimp only at h
      rw [bsel_eq] at h
      split at h
      · rename_i hv
        cases h
        obtain ⟨h1, h2⟩ := plain _ _ _ _ hr
        exact ⟨h1, h2.flat ha hv st⟩
      · exact plain _ _ _ _ h
  · exact plain _ _ _ _ h
end Sim

/- Sim, part 44: a call whose outcome is known: where the memory has what the call needs, the answer and the memory behind it come from a table; what the table does not name is forgotten. -/
namespace Sim
open Go

/- equal values, of any kind -/
noncomputable def fnEq (f g : Fn) : Bool := match f, g with | .func a, .func b => Nat.beq a b | _, _ => false
theorem fnEq_sound {f g : Fn} (h : fnEq f g = true) : f = g := by
  unfold fnEq at h
  split at h
  · rw [Nat.beq_eq] at h; rw [h]
  · cases h
noncomputable def cvEq (x : CV) : CV → Bool :=
  CV.rec (motive_1 := fun _ => CV → Bool) (motive_2 := fun _ => Segs CV → Bool)
    (fun y => match y with | .undef => true | _ => false)
    (fun a y => match y with | .bool b => boolEq a b | _ => false)
    (fun j a y => match y with | .int k b => Bool.and (kbeq j k) (zeq a b) | _ => false)
    (fun n a y => match y with | .str m b => Bool.and (Nat.beq n m) (Nat.beq a b) | _ => false)
    (fun y => match y with | .nilptr => true | _ => false)
    (fun b o y => match y with | .ptr c p => Bool.and (bpEq b c) (Nat.beq o p) | _ => false)
    (fun y => match y with | .nilslice => true | _ => false)
    (fun b o l c g y => match y with | .slice b' o' l' c' g' => Bool.and (bpEq b b') (Bool.and (Nat.beq o o') (Bool.and (Nat.beq l l') (Bool.and (Nat.beq c c') (Nat.beq g g')))) | _ => false)
    (fun y => match y with | .nilmap => true | _ => false)
    (fun b y => match y with | .map c => bpEq b c | _ => false)
    (fun f _ _ ia ic y => match y with | .func g a c => Bool.and (fnEq f g) (Bool.and (ia a) (ic c)) | _ => false)
    (fun y => match y with | .nilfunc => true | _ => false)
    (fun t _ iv y => match y with | .iface u v => Bool.and (Nat.beq t u) (iv v) | _ => false)
    (fun y => match y with | .niliface => true | _ => false)
    (fun _ is y => match y with | .agg s => is s | _ => false)
    (fun _ is y => match y with | .tuple s => is s | _ => false)
    (fun n y => match y with | .atleast m => Nat.beq n m | _ => false)
    (fun s => match s with | .nil => true | _ => false)
    (fun _ _ iv ir s => match s with | .one v r => Bool.and (iv v) (ir r) | _ => false)
    (fun n a _ ir s => match s with | .bytes m b r => Bool.and (Nat.beq n m) (Bool.and (Nat.beq a b) (ir r)) | _ => false) x
noncomputable def sgEq (x : Segs CV) : Segs CV → Bool :=
  CV.rec_1 (motive_1 := fun _ => CV → Bool) (motive_2 := fun _ => Segs CV → Bool)
    (fun y => match y with | .undef => true | _ => false)
    (fun a y => match y with | .bool b => boolEq a b | _ => false)
    (fun j a y => match y with | .int k b => Bool.and (kbeq j k) (zeq a b) | _ => false)
    (fun n a y => match y with | .str m b => Bool.and (Nat.beq n m) (Nat.beq a b) | _ => false)
    (fun y => match y with | .nilptr => true | _ => false)
    (fun b o y => match y with | .ptr c p => Bool.and (bpEq b c) (Nat.beq o p) | _ => false)
    (fun y => match y with | .nilslice => true | _ => false)
    (fun b o l c g y => match y with | .slice b' o' l' c' g' => Bool.and (bpEq b b') (Bool.and (Nat.beq o o') (Bool.and (Nat.beq l l') (Bool.and (Nat.beq c c') (Nat.beq g g')))) | _ => false)
    (fun y => match y with | .nilmap => true | _ => false)
    (fun b y => match y with | .map c => bpEq b c | _ => false)
    (fun f _ _ ia ic y => match y with | .func g a c => Bool.and (fnEq f g) (Bool.and (ia a) (ic c)) | _ => false)
    (fun y => match y with | .nilfunc => true | _ => false)
    (fun t _ iv y => match y with | .iface u v => Bool.and (Nat.beq t u) (iv v) | _ => false)
    (fun y => match y with | .niliface => true | _ => false)
    (fun _ is y => match y with | .agg s => is s | _ => false)
    (fun _ is y => match y with | .tuple s => is s | _ => false)
    (fun n y => match y with | .atleast m => Nat.beq n m | _ => false)
    (fun s => match s with | .nil => true | _ => false)
    (fun _ _ iv ir s => match s with | .one v r => Bool.and (iv v) (ir r) | _ => false)
    (fun n a _ ir s => match s with | .bytes m b r => Bool.and (Nat.beq n m) (Bool.and (Nat.beq a b) (ir r)) | _ => false) x
theorem cvEq_sound (x : CV) : ∀ y, cvEq x y = true → x = y := by
  refine CV.rec (motive_1 := fun x => ∀ y, cvEq x y = true → x = y) (motive_2 := fun s => ∀ t, sgEq s t = true → s = t) ?_ ?_ ?_ ?_ ?_ ?_ ?_ ?_ ?_ ?_ ?_ ?_ ?_ ?_ ?_ ?_ ?_ ?_ ?_ ?_ x
  · intro y h; cases y <;> first | rfl | (exact absurd h Bool.false_ne_true)
  · intro a y h; cases y <;> first | (exact congrArg CV.bool (boolEq_iff.1 h)) | (exact absurd h Bool.false_ne_true)
  · intro j a y h
    cases y <;> first | (exact absurd h Bool.false_ne_true) | skip
    rename_i k b
    have h : Bool.and (kbeq j k) (zeq a b) = true := h
    rw [Bool.and_eq_true, kbeq_iff, zeq_iff] at h
    rw [h.1, h.2]
  · intro n a y h
    cases y <;> first | (exact absurd h Bool.false_ne_true) | skip
    rename_i m b
    have h : Bool.and (Nat.beq n m) (Nat.beq a b) = true := h
    rw [Bool.and_eq_true, Nat.beq_eq, Nat.beq_eq] at h
    rw [h.1, h.2]
  · intro y h; cases y <;> first | rfl | (exact absurd h Bool.false_ne_true)
  · intro b o y h
    cases y <;> first | (exact absurd h Bool.false_ne_true) | skip
    rename_i c p
    have h : Bool.and (bpEq b c) (Nat.beq o p) = true := h
    rw [Bool.and_eq_true, bpEq_iff, Nat.beq_eq] at h
    rw [h.1, h.2]
  · intro y h; cases y <;> first | rfl | (exact absurd h Bool.false_ne_true)
  · intro b o l c g y h
    cases y <;> first | (exact absurd h Bool.false_ne_true) | skip
    rename_i b' o' l' c' g'
    have h : Bool.and (bpEq b b') (Bool.and (Nat.beq o o') (Bool.and (Nat.beq l l') (Bool.and (Nat.beq c c') (Nat.beq g g')))) = true := h
    simp only [Bool.and_eq_true, bpEq_iff, Nat.beq_eq] at h
    obtain ⟨h1, h2, h3, h4, h5⟩ := h
    rw [h1, h2, h3, h4, h5]
  · intro y h; cases y <;> first | rfl | (exact absurd h Bool.false_ne_true)
  · intro b y h
    cases y <;> first | (exact absurd h Bool.false_ne_true) | skip
    rename_i c
    exact congrArg CV.map (bpEq_iff.1 h)
  · intro f a c ia ic y h
    cases y <;> first | (exact absurd h Bool.false_ne_true) | skip
    rename_i g a' c'
    have h : Bool.and (fnEq f g) (Bool.and (sgEq a a') (sgEq c c')) = true := h
    simp only [Bool.and_eq_true] at h
    rw [fnEq_sound h.1, ia _ h.2.1, ic _ h.2.2]
  · intro y h; cases y <;> first | rfl | (exact absurd h Bool.false_ne_true)
  · intro t v iv y h
    cases y <;> first | (exact absurd h Bool.false_ne_true) | skip
    rename_i u v'
    have h : Bool.and (Nat.beq t u) (cvEq v v') = true := h
    simp only [Bool.and_eq_true, Nat.beq_eq] at h
    rw [h.1, iv _ h.2]
  · intro y h; cases y <;> first | rfl | (exact absurd h Bool.false_ne_true)
  · intro s is y h
    cases y <;> first | (exact absurd h Bool.false_ne_true) | skip
    exact congrArg CV.agg (is _ h)
  · intro s is y h
    cases y <;> first | (exact absurd h Bool.false_ne_true) | skip
    exact congrArg CV.tuple (is _ h)
  · intro n y h
    cases y <;> first | (exact absurd h Bool.false_ne_true) | skip
    rename_i m
    have h : Nat.beq n m = true := h
    rw [Nat.beq_eq] at h; rw [h]
  · intro t h; cases t <;> first | rfl | (exact absurd h Bool.false_ne_true)
  · intro v r iv ir t h
    cases t <;> first | (exact absurd h Bool.false_ne_true) | skip
    rename_i v' r'
    have h : Bool.and (cvEq v v') (sgEq r r') = true := h
    rw [Bool.and_eq_true] at h
    rw [iv _ h.1, ir _ h.2]
  · intro n a r ir t h
    cases t <;> first | (exact absurd h Bool.false_ne_true) | skip
    rename_i m b r'
    have h : Bool.and (Nat.beq n m) (Bool.and (Nat.beq a b) (sgEq r r')) = true := h
    simp only [Bool.and_eq_true, Nat.beq_eq] at h
    rw [h.1, h.2.1, ir _ h.2.2]
theorem sgEq_sound (x : Segs CV) : ∀ y, sgEq x y = true → x = y := by
  induction x with
  | nil => intro t h; cases t <;> first | rfl | (exact absurd h Bool.false_ne_true)
  | one v r ih =>
    intro t h
    cases t <;> first | (exact absurd h Bool.false_ne_true) | skip
    rename_i v' r'
    have h : Bool.and (cvEq v v') (sgEq r r') = true := h
    rw [Bool.and_eq_true] at h
    rw [cvEq_sound _ _ h.1, ih _ h.2]
  | bytes n a r ih =>
    intro t h
    cases t <;> first | (exact absurd h Bool.false_ne_true) | skip
    rename_i m b r'
    have h : Bool.and (Nat.beq n m) (Bool.and (Nat.beq a b) (sgEq r r')) = true := h
    simp only [Bool.and_eq_true, Nat.beq_eq] at h
    rw [h.1, h.2.1, ih _ h.2.2]

noncomputable def esEq (x : List Ent) : List Ent → Bool :=
  List.rec (motive := fun _ => List Ent → Bool) (fun y => match y with | [] => true | _ => false)
    (fun e _ ih y => match y with | f :: y => Bool.and (cvEq e.1 f.1) (Bool.and (cvEq e.2.1 f.2.1) (Bool.and (Nat.beq e.2.2 f.2.2) (ih y))) | _ => false) x
theorem esEq_sound (x : List Ent) : ∀ y, esEq x y = true → x = y := by
  induction x with
  | nil => intro y h; cases y <;> first | rfl | (exact absurd h Bool.false_ne_true)
  | cons e x ih =>
    intro y h
    cases y <;> first | (exact absurd h Bool.false_ne_true) | skip
    rename_i f y
    have h : Bool.and (cvEq e.1 f.1) (Bool.and (cvEq e.2.1 f.2.1) (Bool.and (Nat.beq e.2.2 f.2.2) (esEq x y))) = true := h
    simp only [Bool.and_eq_true, Nat.beq_eq] at h
    have h1 := cvEq_sound _ _ h.1
    have h2 := cvEq_sound _ _ h.2.1
    have h3 := h.2.2.1
    rw [ih _ h.2.2.2]
    obtain ⟨a, b, c⟩ := e
    obtain ⟨a', b', c'⟩ := f
    dsimp only at h1 h2 h3
    rw [h1, h2, h3]
noncomputable def argsEq (x : List CV) : List CV → Bool :=
  List.rec (motive := fun _ => List CV → Bool) (fun y => match y with | [] => true | _ => false) (fun u _ ih y => match y with | v :: y => Bool.and (cvEq u v) (ih y) | _ => false) x
theorem argsEq_sound (x : List CV) : ∀ y, argsEq x y = true → x = y := by
  induction x with
  | nil => intro y h; cases y <;> first | rfl | (exact absurd h Bool.false_ne_true)
  | cons e x ih =>
    intro y h
    cases y <;> first | (exact absurd h Bool.false_ne_true) | skip
    rename_i f y
    have h : Bool.and (cvEq e f) (argsEq x y) = true := h
    rw [Bool.and_eq_true] at h
    rw [cvEq_sound _ _ h.1, ih _ h.2]
noncomputable def blkEq (x y : Blk) : Bool :=
  match x, y with
  | .cells s t g, .cells s' t' g' => Bool.and (Nat.beq t t') (Bool.and (boolEq g g') (sgEq s s'))
  | .map es c, .map es' c' => Bool.and (Nat.beq c c') (esEq es es')
  | .lmap es, .lmap es' => esEq es es'
  | _, _ => false
theorem blkEq_sound {x y : Blk} (h : blkEq x y = true) : x = y := by
  unfold blkEq at h
  split at h
  · simp only [Bool.and_eq_true, Nat.beq_eq, boolEq_iff] at h
    rw [h.1, h.2.1, sgEq_sound _ _ h.2.2]
  · simp only [Bool.and_eq_true, Nat.beq_eq] at h
    rw [h.1, esEq_sound _ _ h.2]
  · rw [esEq_sound _ _ h]
  · cases h

/- tables of blocks -/
abbrev Tab := List (Bp × Blk)
noncomputable def tabM (l : Tab) : PT Blk := List.rec (motive := fun _ => PT Blk) PT.nil (fun p _ ih => ih.put p.1 (some p.2)) l
noncomputable def tabIn (l : Tab) (m : PT Blk) : Bool := List.rec (motive := fun _ => Bool) true (fun p _ ih => Bool.and (match m.get p.1 with | some b => blkEq p.2 b | none => false) ih) l
theorem tabM_mem : ∀ {l : Tab} {q : Bp} {b : Blk}, (tabM l).get q = some b → (q, b) ∈ l := by
  intro l
  induction l with
  | nil => intro q b h; have h : (PT.nil : PT Blk).get q = some b := h; rw [PT.get_nil] at h; cases h
  | cons p l ih =>
    intro q b h
    have h : ((tabM l).put p.1 (some p.2)).get q = some b := h
    by_cases e : q = p.1
    · subst e
      rw [PT.get_put_same] at h
      cases h
      exact List.mem_cons_self ..
    · rw [PT.get_put_ne _ _ _ _ e] at h
      exact List.mem_cons_of_mem _ (ih h)
theorem tabIn_mem : ∀ {l : Tab} {m : PT Blk}, tabIn l m = true → ∀ q b, (q, b) ∈ l → m.get q = some b := by
  intro l
  induction l with
  | nil => intro m _ q b h; cases h
  | cons p l ih =>
    intro m h q b hm
    have h : Bool.and (match m.get p.1 with | some b => blkEq p.2 b | none => false) (tabIn l m) = true := h
    rw [Bool.and_eq_true] at h
    rcases List.mem_cons.1 hm with e | hm
    · have h1 := h.1
      rw [← e] at h1
      split at h1
      · rename_i b' hb
        rw [hb]; exact congrArg some (blkEq_sound h1).symm
      · cases h1
    · exact ih h.2 q b hm
theorem tabIn_sub {l : Tab} {m : PT Blk} (h : tabIn l m = true) (q : Bp) : (tabM l).get q = m.get q ∨ (tabM l).get q = none := by
  cases hq : (tabM l).get q with
  | none => exact .inr rfl
  | some b => exact .inl (tabIn_mem h q b (tabM_mem hq)).symm

structure Snap where
  args : List CV
  next : Bp
  pre : Tab
  val : CV
  next' : Bp
  post : Tab
noncomputable def Snap.st (S : Snap) : St := ⟨tabM S.pre, S.next⟩
noncomputable def Snap.fits (S : Snap) (args : List CV) (st : St) : Bool := Bool.and (bpEq S.next st.next) (Bool.and (argsEq S.args args) (tabIn S.pre st.mem))
noncomputable def Snap.is (S : Snap) (r : OR) : Bool := match r with | .ok v st => Bool.and (cvEq S.val v) (Bool.and (bpEq S.next' st.next) (tabIn S.post st.mem)) | .bad => false
noncomputable def snapG (S : Snap) (F : FunX) : FunX := fun call args st => bsel (S.fits args st) (.ok S.val ⟨tabM S.post, S.next'⟩) (F call args st)
noncomputable def snapI (S : Snap) (F : Option FunX) : Option FunX := Option.rec none (fun F => some (snapG S F)) F
noncomputable def snapO (S : Snap) : FunX := fun _ args st => bsel (S.fits args st) (.ok S.val ⟨tabM S.post, S.next'⟩) .bad

section
variable {P : Program} {f : Nat}
/-- Less is known, ahead of the call and behind it. -/
theorem snap_ok {S : Snap} {call0 : CallF} {F : FunX} (hm : P.follows .mixedOrders = true) (hF : funXK P f = some F) (h0 : CallSound P call0) (hs : S.is (F call0 S.args S.st) = true) {args : List CV} {st : St} (hfit : S.fits args st = true) : callable P f = true ∧ CallOK P f args st S.val ⟨tabM S.post, S.next'⟩ := by
  unfold Snap.is at hs
  split at hs
  · rename_i v st1 hr
    simp only [Bool.and_eq_true, bpEq_iff] at hs
    obtain ⟨hv, hn, hp⟩ := hs
    have hv := cvEq_sound _ _ hv
    subst hv
    unfold Snap.fits at hfit
    simp only [Bool.and_eq_true, bpEq_iff] at hfit
    obtain ⟨fn, fa, fp⟩ := hfit
    have fa := argsEq_sound _ _ fa
    subst fa
    have hp0 : callable P f = true ∧ CallOK P f S.args S.st S.val st1 := by
      rcases funXK_ok hF call0 S.args S.st with h1 | h1
      · rw [h1] at hr; cases hr
      · rw [h1] at hr
        exact enterC_sound h0 (runDraw2_sound hm) hr
    obtain ⟨hc, hk⟩ := hp0
    · refine ⟨hc, fun ρ w args' hw ha => ?_⟩
      have hw0 : WR ρ S.st w := hw.sub (fun q _ _ => tabIn_sub fp q) fn
      refine (hk ρ w args' hw0 ha).mono ?_
      rintro e w' ⟨v', ρ', rfl, hv, hA⟩
      refine ⟨v', ρ', rfl, hv, hA.wr.sub (fun q _ _ => tabIn_sub hp q) hn, hA.ext, fun q hq hr => hA.dom q (by show _ < S.next.dec; rw [fn]; exact hq) hr, by show _ ≤ S.next'.dec; rw [hn, ← fn]; exact hA.next, fun b blk r sz h1 h2 => ?_, fun r hr hk => hA.kept r hr fun b blk sz g1 g2 => ?_, hA.size, hA.os, hA.output⟩
      · have h1' : st1.mem.get b = some blk := by
          rcases tabIn_sub hp b with e | e
          · rw [← e]; exact h1
          · have h1 : (tabM S.post).get b = some blk := h1
            rw [e] at h1; cases h1
        rcases hA.origin b blk r sz h1' h2 with ⟨b0, blk0, sz0, g1, g2⟩ | g
        · refine .inl ⟨b0, blk0, sz0, ?_, g2⟩
          rcases tabIn_sub fp b0 with e | e
          · rw [← e]; exact g1
          · have g1 : (tabM S.pre).get b0 = some blk0 := g1
            rw [e] at g1; cases g1
        · exact .inr g
      · refine hk b blk sz ?_ g2
        rcases tabIn_sub fp b with e | e
        · rw [← e]; exact g1
        · have g1 : (tabM S.pre).get b = some blk := g1
          rw [e] at g1; cases g1
  · cases hs
theorem snap_out {S : Snap} {call0 : CallF} {F : FunX} (hm : P.follows .mixedOrders = true) (hF : funXK P f = some F) (h0 : CallSound P call0) (hs : S.is (F call0 S.args S.st) = true) {args : List CV} {st : St} (hfit : S.fits args st = true) : CallOut P f args st S.val ⟨tabM S.post, S.next'⟩ :=
  .inl (snap_ok hm hF h0 hs hfit)
end
end Sim

/- Sim, part 45: calls whose outcome is known: as a table of contracts. -/
namespace Sim
open Go

noncomputable def Snap.isF (S : Snap) (P : Program) (f : Nat) (call : CallF) : Bool := Option.rec (motive := fun _ => Bool) false (fun F => S.is (F call S.args S.st)) (funXK P f)
noncomputable def saysG (v : CV) : FunX := fun _ args st => match args with | [] => .ok v st | _ => .bad
noncomputable def saysF (v : CV) (P : Program) (f : Nat) (call : CallF) : Bool := Option.rec (motive := fun _ => Bool) false (fun F => match F call [] ⟨.nil, .e⟩ with | .ok u _ => Bool.and (flatT v) (cvEq v u) | .bad => false) (funXK P f)

section
variable {P : Program} {f : Nat}
theorem funXK_plain {F : FunX} {call : CallF} (hm : P.follows .mixedOrders = true) (hF : funXK P f = some F) (hc : CallSound P call) {args : List CV} {st : St} {v : CV} {st' : St} (h : F call args st = .ok v st') : callable P f = true ∧ CallOK P f args st v st' := by
  rcases funXK_ok hF call args st with h1 | h1
  · rw [h1] at h; cases h
  · rw [h1] at h
    exact enterC_sound hc (runDraw2_sound hm) h
theorem snapG_sound {S : Snap} {call0 call : CallF} {g : FunX} (hm : P.follows .mixedOrders = true) (h0 : CallSound P call0) (hs : S.isF P f call0 = true)
    (hg : ∀ args st v st', g call args st = .ok v st' → CallOut P f args st v st') (args : List CV) (st : St) (v : CV) (st' : St) (h : snapG S g call args st = .ok v st') : CallOut P f args st v st' := by
  unfold snapG at h
  rw [bsel_eq] at h
  split at h
  · rename_i hfit
    cases h
    unfold Snap.isF at hs
    cases hF : funXK P f with
    | none => rw [hF] at hs; cases hs
    | some F => rw [hF] at hs; exact snap_out hm hF h0 hs hfit
  · exact hg _ _ _ _ h
theorem snapI_sound {S : Snap} {call0 call : CallF} {o : Option FunX} (hm : P.follows .mixedOrders = true) (h0 : CallSound P call0) (hs : S.isF P f call0 = true)
    (ho : ∀ g, o = some g → ∀ args st v st', g call args st = .ok v st' → CallOut P f args st v st') : ∀ g, snapI S o = some g → ∀ args st v st', g call args st = .ok v st' → CallOut P f args st v st' := by
  intro g hg
  cases o with
  | none => cases hg
  | some g0 => cases hg; exact snapG_sound hm h0 hs (ho g0 rfl)
theorem funXK_out {call : CallF} (hm : P.follows .mixedOrders = true) (hc : CallSound P call) : ∀ g, funXK P f = some g → ∀ args st v st', g call args st = .ok v st' → CallOut P f args st v st' :=
  fun _ hg _ _ _ _ h => .inl (funXK_plain hm hg hc h)
/-- A call without arguments, whose answer is known. -/
theorem saysG_sound {v0 : CV} {call0 call : CallF} (hm : P.follows .mixedOrders = true) (h0 : CallSound P call0) (hs : saysF v0 P f call0 = true) (args : List CV) (st : St) (v : CV) (st' : St) (h : saysG v0 call args st = .ok v st') : CallOut P f args st v st' := by
  unfold saysG at h
  split at h
  · cases h
    unfold saysF at hs
    cases hF : funXK P f with
    | none => rw [hF] at hs; cases hs
    | some F =>
      rw [hF] at hs
      dsimp only at hs
      split at hs
      · rename_i u s1 hr
        rw [Bool.and_eq_true] at hs
        have hu := cvEq_sound _ _ hs.2
        subst hu
        obtain ⟨h1, h2⟩ := funXK_plain hm hF h0 hr
        exact .inl ⟨h1, h2.flat rfl hs.1 st⟩
      · cases hs
  · cases h
/-- The whole program: what it answers, from whatever world. -/
theorem says_calls {v0 : CV} {call0 : CallF} (hm : P.follows .mixedOrders = true) (h0 : CallSound P call0) (hs : saysF v0 P f call0 = true) (w : World) (hg : ∀ r v, (r, v) ∈ globs → w.cell? ⟨r, 0, none⟩ = some v) : Calls P f #[] w fun e w' => ∃ v', e = .returned v' ∧ VR noRen v0 v' ∧ w'.os = w.os ∧ w'.output = w.output ∧ w.heap.size ≤ w'.heap.size ∧ ∀ r, r < w.heap.size → w'.heap[r]? = w.heap[r]? := by
  unfold saysF at hs
  cases hF : funXK P f with
  | none => rw [hF] at hs; cases hs
  | some F =>
    rw [hF] at hs
    dsimp only at hs
    split at hs
    · rename_i u s1 hr
      rw [Bool.and_eq_true] at hs
      have hu := cvEq_sound _ _ hs.2
      subst hu
      obtain ⟨_, h2⟩ := funXK_plain hm hF h0 hr
      have hw0 : WR noRen ⟨.nil, .e⟩ w := ⟨fun b blk r sz _ h => (by cases h), fun b b' k k' r s s' _ _ h => (by cases h), fun b x h => (by cases h), fun r v hm => ⟨hg r v hm, fun b blk sz h => by cases h⟩⟩
      refine ((h2.flat rfl hs.1 ⟨.nil, .e⟩) noRen w #[] hw0 ⟨rfl, fun i v v' a => by simp at a⟩).mono ?_
      rintro e w' ⟨v', ρ', rfl, hv, hA⟩
      exact ⟨v', rfl, flatT_VR hs.1 hv, hA.os, hA.output, hA.size, fun r hr => hA.kept r hr fun b blk sz _ h => (by cases h)⟩
    · cases hs
end
end Sim

/- Sim, part 46: a call asked in a small memory that holds just what its arguments reach, numbered from the beginning: the kernel asks alike calls but once. -/
namespace Sim
open Go

structure VS where
  g : PT Bp
  h : PT Bp
  n : Bp
  todo : List Bp
  acc : List Bp
  img : List Bp
abbrev VK := VS → (VS → OR) → OR
noncomputable def visB (m : Nat) (b : Bp) : VK := fun σ k =>
  Option.rec (motive := fun _ => OR)
    (bsel (Nat.ble (Nat.succ b.dec) m) (PT.force (σ.g.put b (some σ.n)) fun g => PT.force (σ.h.put σ.n (some b)) fun h => forceB σ.n.succ fun n => k ⟨g, h, n, b :: σ.todo, b :: σ.acc, σ.n :: σ.img⟩) .bad)
    (fun _ => k σ) (σ.g.get b)
noncomputable def visV (m : Nat) (v : CV) : VK :=
  CV.rec (motive_1 := fun _ => VK) (motive_2 := fun _ => VK)
    (fun σ k => k σ) (fun _ σ k => k σ) (fun _ _ σ k => k σ) (fun _ _ σ k => k σ) (fun σ k => k σ)
    (fun b _ => visB m b) (fun σ k => k σ) (fun b _ _ _ _ => visB m b) (fun σ k => k σ) (fun b => visB m b)
    (fun _ _ _ ia ic σ k => ia σ fun σ => ic σ k) (fun σ k => k σ) (fun _ _ iv => iv) (fun σ k => k σ) (fun _ is => is) (fun _ is => is) (fun _ σ k => k σ)
    (fun σ k => k σ) (fun _ _ iv ir σ k => iv σ fun σ => ir σ k) (fun _ _ _ ir => ir) v
noncomputable def visS (m : Nat) (s : Segs CV) : VK :=
  CV.rec_1 (motive_1 := fun _ => VK) (motive_2 := fun _ => VK)
    (fun σ k => k σ) (fun _ σ k => k σ) (fun _ _ σ k => k σ) (fun _ _ σ k => k σ) (fun σ k => k σ)
    (fun b _ => visB m b) (fun σ k => k σ) (fun b _ _ _ _ => visB m b) (fun σ k => k σ) (fun b => visB m b)
    (fun _ _ _ ia ic σ k => ia σ fun σ => ic σ k) (fun σ k => k σ) (fun _ _ iv => iv) (fun σ k => k σ) (fun _ is => is) (fun _ is => is) (fun _ σ k => k σ)
    (fun σ k => k σ) (fun _ _ iv ir σ k => iv σ fun σ => ir σ k) (fun _ _ _ ir => ir) s
noncomputable def visE (m : Nat) (es : List Ent) : VK :=
  List.rec (motive := fun _ => VK) (fun σ k => k σ) (fun e _ ih σ k => visV m e.1 σ fun σ => visV m e.2.1 σ fun σ => ih σ k) es
noncomputable def visL (m : Nat) (l : List CV) : VK :=
  List.rec (motive := fun _ => VK) (fun σ k => k σ) (fun v _ ih σ k => visV m v σ fun σ => ih σ k) l
noncomputable def visBlk (m : Nat) (b : Blk) : VK :=
  Blk.rec (motive := fun _ => VK) (fun s _ _ => visS m s) (fun es _ => visE m es) (fun es => visE m es) b
noncomputable def visLoop (m : Nat) (src : PT Blk) (fuel : Nat) : VK :=
  Nat.rec (motive := fun _ => VK) (fun _ _ => .bad)
    (fun _ ih σ k => List.rec (motive := fun _ => OR) (k σ)
      (fun b r _ => Option.rec (motive := fun _ => OR) (ih ⟨σ.g, σ.h, σ.n, r, σ.acc, σ.img⟩ k) (fun blk => visBlk m blk ⟨σ.g, σ.h, σ.n, r, σ.acc, σ.img⟩ fun σ => ih σ k) (src.get b)) σ.todo) fuel

structure Good (m : Nat) (σ : VS) : Prop where
  gh : ∀ b i, σ.g.get b = some i → σ.h.get i = some b
  hg : ∀ b i, σ.h.get i = some b → σ.g.get b = some i
  lt : ∀ b i, σ.g.get b = some i → i.dec < σ.n.dec
  bd : ∀ b i, σ.g.get b = some i → b.dec < m
  acc : ∀ b i, σ.g.get b = some i → b ∈ σ.acc
  img : ∀ b i, σ.g.get b = some i → i ∈ σ.img
structure Ext (m : Nat) (σ σ' : VS) : Prop where
  good : Good m σ → Good m σ'
  le : σ.n.dec ≤ σ'.n.dec
  keep : ∀ b i, σ.g.get b = some i → σ'.g.get b = some i
  new : ∀ b i, σ'.g.get b = some i → σ.g.get b = some i ∨ σ.n.dec ≤ i.dec
theorem Ext.refl (m : Nat) (σ : VS) : Ext m σ σ := ⟨id, Nat.le_refl _, fun _ _ h => h, fun _ _ h => .inl h⟩
theorem Ext.trans {m : Nat} {a b c : VS} (h : Ext m a b) (h' : Ext m b c) : Ext m a c :=
  ⟨fun g => h'.good (h.good g), Nat.le_trans h.le h'.le, fun x i e => h'.keep x i (h.keep x i e), fun x i e => by
    rcases h'.new x i e with e | e
    · exact h.new x i e
    · exact .inr (Nat.le_trans h.le e)⟩
def VOK (m : Nat) (f : VK) : Prop := ∀ σ k, f σ k = .bad ∨ ∃ σ', f σ k = k σ' ∧ Ext m σ σ'
theorem VOK.id (m : Nat) : VOK m (fun σ k => k σ) := fun σ _ => .inr ⟨σ, rfl, Ext.refl m σ⟩
theorem VOK.seq {m : Nat} {f g : VK} (hf : VOK m f) (hg : VOK m g) : VOK m (fun σ k => f σ fun σ => g σ k) := fun σ k => by
  rcases hf σ (fun σ => g σ k) with e | ⟨σ1, e, h1⟩
  · exact .inl e
  · rcases hg σ1 k with e2 | ⟨σ2, e2, h2⟩
    · exact .inl (e.trans e2)
    · exact .inr ⟨σ2, e.trans e2, h1.trans h2⟩
theorem visB_ok (m : Nat) (b : Bp) : VOK m (visB m b) := fun σ k => by
  unfold visB
  cases hg : σ.g.get b with
  | some i => exact .inr ⟨σ, rfl, Ext.refl m σ⟩
  | none =>
    dsimp only
    rw [bsel_eq]
    split
    · rename_i hb
      rw [Nat.ble_eq] at hb
      rw [PT.force_eq, PT.force_eq, forceB_eq]
      refine .inr ⟨_, rfl, fun G => ⟨fun b' i h => ?_, fun b' i h => ?_, fun b' i h => ?_, fun b' i h => ?_, fun b' i h => ?_, fun b' i h => ?_⟩, ?_, fun b' i h => ?_, fun b' i h => ?_⟩
      · dsimp only at h ⊢
        by_cases e : b' = b
        · subst e; rw [PT.get_put_same] at h; cases h; rw [PT.get_put_same]
        · rw [PT.get_put_ne _ _ _ _ e] at h
          have := G.lt b' i h
          rw [PT.get_put_ne _ _ _ _ (fun e => by rw [e] at this; omega)]
          exact G.gh b' i h
      · dsimp only at h ⊢
        by_cases e : i = σ.n
        · subst e; rw [PT.get_put_same] at h; cases h; rw [PT.get_put_same]
        · rw [PT.get_put_ne _ _ _ _ e] at h
          have := G.hg b' i h
          rw [PT.get_put_ne _ _ _ _ (fun e => by rw [e, hg] at this; cases this)]
          exact this
      · dsimp only at h ⊢
        rw [Bp.dec_succ]
        by_cases e : b' = b
        · subst e; rw [PT.get_put_same] at h; cases h; omega
        · rw [PT.get_put_ne _ _ _ _ e] at h
          have := G.lt b' i h
          omega
      · dsimp only at h
        by_cases e : b' = b
        · subst e; exact hb
        · rw [PT.get_put_ne _ _ _ _ e] at h
          exact G.bd b' i h
      · dsimp only at h ⊢
        by_cases e : b' = b
        · subst e; exact List.mem_cons_self ..
        · rw [PT.get_put_ne _ _ _ _ e] at h
          exact List.mem_cons_of_mem _ (G.acc b' i h)
      · dsimp only at h ⊢
        by_cases e : b' = b
        · subst e; rw [PT.get_put_same] at h; cases h; exact List.mem_cons_self ..
        · rw [PT.get_put_ne _ _ _ _ e] at h
          exact List.mem_cons_of_mem _ (G.img b' i h)
      · dsimp only
        rw [Bp.dec_succ]; omega
      · dsimp only
        rw [PT.get_put_ne _ _ _ _ (fun e => by rw [e, hg] at h; cases h)]; exact h
      · dsimp only at h
        by_cases e : b' = b
        · subst e; rw [PT.get_put_same] at h; cases h; exact .inr (Nat.le_refl _)
        · rw [PT.get_put_ne _ _ _ _ e] at h; exact .inl h
    · exact .inl rfl
theorem visV_ok (m : Nat) (v : CV) : VOK m (visV m v) := by
  refine CV.rec (motive_1 := fun v => VOK m (visV m v)) (motive_2 := fun s => VOK m (visS m s)) ?_ ?_ ?_ ?_ ?_ ?_ ?_ ?_ ?_ ?_ ?_ ?_ ?_ ?_ ?_ ?_ ?_ ?_ ?_ ?_ v
  · exact VOK.id m
  · intro _; exact VOK.id m
  · intro _ _; exact VOK.id m
  · intro _ _; exact VOK.id m
  · exact VOK.id m
  · intro b _; exact visB_ok m b
  · exact VOK.id m
  · intro b _ _ _ _; exact visB_ok m b
  · exact VOK.id m
  · intro b; exact visB_ok m b
  · intro _ _ _ ia ic; have h := VOK.seq ia ic; exact h
  · exact VOK.id m
  · intro _ _ iv; exact iv
  · exact VOK.id m
  · intro _ is; exact is
  · intro _ is; exact is
  · intro _; exact VOK.id m
  · exact VOK.id m
  · intro _ _ iv ir; have h := VOK.seq iv ir; exact h
  · intro _ _ _ ir; exact ir
theorem visS_ok (m : Nat) (s : Segs CV) : VOK m (visS m s) := by
  induction s with
  | nil => exact VOK.id m
  | one v r ih => have h := VOK.seq (visV_ok m v) ih; exact h
  | bytes _ _ r ih => exact ih
theorem visE_ok (m : Nat) (es : List Ent) : VOK m (visE m es) := by
  induction es with
  | nil => exact VOK.id m
  | cons e es ih => have h := VOK.seq (visV_ok m e.1) (VOK.seq (visV_ok m e.2.1) ih); exact h
theorem visL_ok (m : Nat) (l : List CV) : VOK m (visL m l) := by
  induction l with
  | nil => exact VOK.id m
  | cons e es ih => have h := VOK.seq (visV_ok m e) ih; exact h
theorem visBlk_ok (m : Nat) (b : Blk) : VOK m (visBlk m b) := by
  cases b with
  | cells s _ _ => exact visS_ok m s
  | map es _ => exact visE_ok m es
  | lmap es => exact visE_ok m es
theorem pop_ext (m : Nat) (σ : VS) (r : List Bp) : Ext m σ ⟨σ.g, σ.h, σ.n, r, σ.acc, σ.img⟩ :=
  ⟨fun G => ⟨G.gh, G.hg, G.lt, G.bd, G.acc, G.img⟩, Nat.le_refl _, fun _ _ h => h, fun _ _ h => .inl h⟩
theorem visLoop_ok (m : Nat) (src : PT Blk) (fuel : Nat) : VOK m (visLoop m src fuel) := by
  induction fuel with
  | zero => exact fun _ _ => .inl rfl
  | succ f ih =>
    intro σ k
    have e : visLoop m src (f + 1) σ k = List.rec (motive := fun _ => OR) (k σ)
      (fun b r _ => Option.rec (motive := fun _ => OR) (visLoop m src f ⟨σ.g, σ.h, σ.n, r, σ.acc, σ.img⟩ k) (fun blk => visBlk m blk ⟨σ.g, σ.h, σ.n, r, σ.acc, σ.img⟩ fun σ => visLoop m src f σ k) (src.get b)) σ.todo := rfl
    rw [e]
    cases σ.todo with
    | nil => exact .inr ⟨σ, rfl, Ext.refl m σ⟩
    | cons b r =>
      dsimp only
      cases src.get b with
      | none =>
        dsimp only
        rcases ih ⟨σ.g, σ.h, σ.n, r, σ.acc, σ.img⟩ k with e2 | ⟨σ2, e2, h2⟩
        · exact .inl e2
        · exact .inr ⟨σ2, e2, (pop_ext m σ r).trans h2⟩
      | some blk =>
        dsimp only
        rcases VOK.seq (visBlk_ok m blk) ih ⟨σ.g, σ.h, σ.n, r, σ.acc, σ.img⟩ k with e2 | ⟨σ2, e2, h2⟩
        · exact .inl e2
        · exact .inr ⟨σ2, e2, (pop_ext m σ r).trans h2⟩

/- renaming -/
noncomputable def optB (x : Option Bp) (k : Bp → OR) : OR := Option.rec (motive := fun _ => OR) .bad (fun q => forceB q k) x
noncomputable def forceBool (b : Bool) (k : Bool → OR) : OR := Bool.rec (motive := fun _ => OR) (k false) (k true) b
theorem forceBool_eq (b : Bool) (k : Bool → OR) : forceBool b k = k b := by cases b <;> rfl
noncomputable def renK (g : PT Bp) (v : CV) : (CV → OR) → OR :=
  CV.rec (motive_1 := fun _ => (CV → OR) → OR) (motive_2 := fun _ => (Segs CV → OR) → OR)
    (fun k => k .undef) (fun b k => forceBool b fun b => k (.bool b)) (fun q n k => forceZ n fun n => k (.int q n)) (fun a b k => forceN a fun a => forceN b fun b => k (.str a b)) (fun k => k .nilptr)
    (fun b off k => optB (g.get b) fun b => forceN off fun off => k (.ptr b off)) (fun k => k .nilslice)
    (fun b off len cap gr k => optB (g.get b) fun b => forceN off fun off => forceN len fun len => forceN cap fun cap => forceN gr fun gr => k (.slice b off len cap gr))
    (fun k => k .nilmap) (fun b k => optB (g.get b) fun b => k (.map b))
    (fun f _ _ ia ic k => ia fun a => ic fun c => k (.func f a c)) (fun k => k .nilfunc) (fun t _ iv k => forceN t fun t => iv fun v => k (.iface t v)) (fun k => k .niliface)
    (fun _ is k => is fun s => k (.agg s)) (fun _ is k => is fun s => k (.tuple s)) (fun n k => forceN n fun n => k (.atleast n))
    (fun k => k .nil) (fun _ _ iv ir k => iv fun v => ir fun r => k (.one v r)) (fun n a _ ir k => forceN n fun n => forceN a fun a => ir fun r => k (.bytes n a r)) v
noncomputable def renS (g : PT Bp) (s : Segs CV) : (Segs CV → OR) → OR :=
  CV.rec_1 (motive_1 := fun _ => (CV → OR) → OR) (motive_2 := fun _ => (Segs CV → OR) → OR)
    (fun k => k .undef) (fun b k => forceBool b fun b => k (.bool b)) (fun q n k => forceZ n fun n => k (.int q n)) (fun a b k => forceN a fun a => forceN b fun b => k (.str a b)) (fun k => k .nilptr)
    (fun b off k => optB (g.get b) fun b => forceN off fun off => k (.ptr b off)) (fun k => k .nilslice)
    (fun b off len cap gr k => optB (g.get b) fun b => forceN off fun off => forceN len fun len => forceN cap fun cap => forceN gr fun gr => k (.slice b off len cap gr))
    (fun k => k .nilmap) (fun b k => optB (g.get b) fun b => k (.map b))
    (fun f _ _ ia ic k => ia fun a => ic fun c => k (.func f a c)) (fun k => k .nilfunc) (fun t _ iv k => forceN t fun t => iv fun v => k (.iface t v)) (fun k => k .niliface)
    (fun _ is k => is fun s => k (.agg s)) (fun _ is k => is fun s => k (.tuple s)) (fun n k => forceN n fun n => k (.atleast n))
    (fun k => k .nil) (fun _ _ iv ir k => iv fun v => ir fun r => k (.one v r)) (fun n a _ ir k => forceN n fun n => forceN a fun a => ir fun r => k (.bytes n a r)) s

def Maps (g : PT Bp) (ρ ρ' : Ren) : Prop := ∀ b q y, g.get b = some q → ρ b = some y → ρ' q = some y
def RVx (g : PT Bp) (v v' : CV) : Prop := ∀ ρ ρ', Maps g ρ ρ' → ∀ x, VR ρ v x → VR ρ' v' x
def RSx (g : PT Bp) (s s' : Segs CV) : Prop := s'.size = s.size ∧ ∀ ρ ρ', Maps g ρ ρ' → ∀ l, VRs ρ (row s) l → VRs ρ' (row s') l
/-- What is done in steps, and hands one thing on, or fails. -/
def Hands {α : Type} (f : (α → OR) → OR) (p : α → Prop) : Prop := (∀ k, f k = .bad) ∨ ∃ a, (∀ k, f k = k a) ∧ p a
theorem Hands.mk {α : Type} {f : (α → OR) → OR} {p : α → Prop} (a : α) (h : ∀ k, f k = k a) (hp : p a) : Hands f p := .inr ⟨a, h, hp⟩
theorem Hands.bind {α β : Type} {f : (α → OR) → OR} {p : α → Prop} {F : α → (β → OR) → OR} {q : β → Prop} (h : Hands f p) (h2 : ∀ a, p a → Hands (F a) q) : Hands (fun k => f fun a => F a k) q := by
  rcases h with h | ⟨a, h, hp⟩
  · exact .inl fun k => h _
  · rcases h2 a hp with e | ⟨b, e, hq⟩
    · exact .inl fun k => (h _).trans (e k)
    · exact .inr ⟨b, fun k => (h _).trans (e k), hq⟩
theorem Hands.optB (x : Option Bp) : Hands (Sim.optB x) (fun q => x = some q) := by
  cases x with
  | none => exact .inl fun _ => rfl
  | some q => exact .inr ⟨q, fun k => forceB_eq q k, rfl⟩
theorem VR.ptr_inv {ρ : Ren} {b : Bp} {off : Nat} {x : Value} (h : VR ρ (.ptr b off) x) : ∃ r sz, x = .pointer (some ⟨r, off, none⟩) ∧ ρ b = some (r, sz) := by
  cases h; exact ⟨_, _, rfl, by assumption⟩
theorem renS_nil (g : PT Bp) : Hands (renS g .nil) (RSx g .nil) := Hands.mk Segs.nil (fun _ => rfl) ⟨rfl, fun ρ ρ' _ l h => ⟨h.len, fun i v v' a => by simp [row, Segs.cells] at a⟩⟩
theorem renS_one (g : PT Bp) (v : CV) (r : Segs CV) (iv : Hands (renK g v) (RVx g v)) (ir : Hands (renS g r) (RSx g r)) : Hands (renS g (.one v r)) (RSx g (.one v r)) := by
  refine Hands.bind (F := fun (v : CV) (k : Segs CV → OR) => renS g r fun r => k (.one v r)) iv fun v' hv => Hands.bind (F := fun (r : Segs CV) (k : Segs CV → OR) => k (.one v' r)) ir fun r' hr => Hands.mk (Segs.one v' r') (fun k => rfl) ⟨by rw [Segs.size_one, Segs.size_one, hr.1], fun ρ ρ' hm l h => ?_⟩
  obtain ⟨x, t, rfl, h1, h2⟩ := VRs.inv (v := v) (l := row r) h
  exact VRs.cons (hv ρ ρ' hm x h1) (hr.2 ρ ρ' hm t h2)
theorem renS_bytes (g : PT Bp) (n val : Nat) (r : Segs CV) (ir : Hands (renS g r) (RSx g r)) : Hands (renS g (.bytes n val r)) (RSx g (.bytes n val r)) := by
  refine Hands.bind (f := forceN n) (p := fun t' => t' = n) (F := fun (n : Nat) (k : Segs CV → OR) => forceN val fun val => renS g r fun r => k (.bytes n val r)) (Hands.mk n (fun k => forceN_eq n k) rfl) fun n' hn => ?_
  subst hn
  refine Hands.bind (f := forceN val) (p := fun t' => t' = val) (F := fun (val : Nat) (k : Segs CV → OR) => renS g r fun r => k (.bytes n' val r)) (Hands.mk val (fun k => forceN_eq val k) rfl) fun val' hv => ?_
  subst hv
  refine Hands.bind (F := fun (r : Segs CV) (k : Segs CV → OR) => k (.bytes n' val' r)) ir fun r' hr => Hands.mk (Segs.bytes n' val' r') (fun k => rfl) ⟨by rw [Segs.size_bytes, Segs.size_bytes, hr.1], fun ρ ρ' hm l hv => ?_⟩
  have e : row (Segs.bytes n' val' r) = (ub n' val').map byteV ++ row r := rfl
  have e' : row (Segs.bytes n' val' r') = (ub n' val').map byteV ++ row r' := rfl
  rw [e] at hv
  rw [e']
  have hl : l = l.take ((ub n' val').map byteV).length ++ l.drop ((ub n' val').map byteV).length := (List.take_append_drop _ _).symm
  have h1 : VRs ρ ((ub n' val').map byteV) (l.take ((ub n' val').map byteV).length) := by
    have := hv.take ((ub n' val').map byteV).length
    rwa [List.take_left'] at this; rfl
  have h2 : VRs ρ (row r) (l.drop ((ub n' val').map byteV).length) := by
    have := hv.drop ((ub n' val').map byteV).length
    rwa [List.drop_left'] at this; rfl
  rw [hl]
  refine VRs.app ⟨h1.len, fun i v v' a b => ?_⟩ (hr.2 ρ ρ' hm _ h2)
  have hx := h1.at' i v v' a b
  rw [List.getElem?_map] at a
  cases hu : (ub n' val')[i]? with
  | none => rw [hu] at a; cases a
  | some x => rw [hu] at a; cases a; cases hx; exact .int _ _
theorem renK_ok (g : PT Bp) (v : CV) : Hands (renK g v) (RVx g v) := by
  refine CV.rec (motive_1 := fun v => Hands (renK g v) (RVx g v)) (motive_2 := fun s => Hands (renS g s) (RSx g s)) ?_ ?_ ?_ ?_ ?_ ?_ ?_ ?_ ?_ ?_ ?_ ?_ ?_ ?_ ?_ ?_ ?_ ?_ ?_ ?_ v
  · exact Hands.mk _ (fun _ => rfl) (fun ρ ρ' _ x h => by cases h; exact .undef)
  · intro b; exact Hands.mk (CV.bool b) (fun k => forceBool_eq b fun b => k (.bool b)) (fun ρ ρ' _ x h => by cases h; exact .bool _)
  · intro q n; exact Hands.mk (CV.int q n) (fun k => forceZ_eq n fun n => k (.int q n)) (fun ρ ρ' _ x h => by cases h; exact .int _ _)
  · intro a b
    refine Hands.mk (.str a b) (fun k => ?_) (fun ρ ρ' _ x h => by cases h; exact .str _ _)
    show forceN a (fun a => forceN b fun b => k (.str a b)) = _
    rw [forceN_eq, forceN_eq]
  · exact Hands.mk _ (fun _ => rfl) (fun ρ ρ' _ x h => by cases h; exact .nilptr)
  · intro b off
    refine Hands.bind (F := fun (b : Bp) (k : CV → OR) => forceN off fun off => k (.ptr b off)) (Hands.optB (g.get b)) fun q hq => Hands.mk (CV.ptr q off) (fun k => forceN_eq off _) fun ρ ρ' hm x h => ?_
    cases h
    exact .ptr _ _ _ _ (hm b q _ hq (by assumption))
  · exact Hands.mk _ (fun _ => rfl) (fun ρ ρ' _ x h => by cases h; exact .nilslice)
  · intro b off len cap gr
    refine Hands.bind (F := fun (b : Bp) (k : CV → OR) => forceN off fun off => forceN len fun len => forceN cap fun cap => forceN gr fun gr => k (.slice b off len cap gr)) (Hands.optB (g.get b)) fun q hq => Hands.mk (CV.slice q off len cap gr) (fun k => by rw [forceN_eq, forceN_eq, forceN_eq, forceN_eq]) fun ρ ρ' hm x h => ?_
    cases h with
    | slice _ _ _ _ r sz h => exact .slice _ _ _ _ _ _ (hm b q _ hq h)
    | sliceG _ _ off' _ _ cap' _ r sz h h1 h2 h3 h4 h5 => exact .sliceG _ _ _ _ _ _ _ _ _ (hm b q _ hq h) h1 h2 h3 h4 h5
  · exact Hands.mk _ (fun _ => rfl) (fun ρ ρ' _ x h => by cases h; exact .nilmap)
  · intro b
    refine Hands.bind (F := fun (b : Bp) (k : CV → OR) => k (.map b)) (Hands.optB (g.get b)) fun q hq => Hands.mk (CV.map q) (fun k => rfl) fun ρ ρ' hm x h => ?_
    cases h
    exact .map _ _ _ (hm b q _ hq (by assumption))
  · intro f a c ia ic
    refine Hands.bind (F := fun (a : Segs CV) (k : CV → OR) => renS g c fun c => k (.func f a c)) ia fun a' ha => Hands.bind (F := fun (c : Segs CV) (k : CV → OR) => k (.func f a' c)) ic fun c' hc => Hands.mk (CV.func f a' c') (fun k => rfl) fun ρ ρ' hm x h => ?_
    cases h with
    | func _ _ _ fl cl hf hc' h1 h2 =>
      have e1 := ha.2 ρ ρ' hm fl ⟨hf, h1⟩
      have e2 := hc.2 ρ ρ' hm cl ⟨hc', h2⟩
      exact .func _ _ _ _ _ e1.len e2.len e1.at' e2.at'
  · exact Hands.mk _ (fun _ => rfl) (fun ρ ρ' _ x h => by cases h; exact .nilfunc)
  · intro t v iv
    refine Hands.bind (f := forceN t) (p := fun t' => t' = t) (F := fun (t : Nat) (k : CV → OR) => renK g v fun v => k (.iface t v)) (Hands.mk t (fun k => forceN_eq t k) rfl) fun t' ht => ?_
    subst ht
    refine Hands.bind (F := fun (v : CV) (k : CV → OR) => k (.iface t' v)) iv fun v' hv => Hands.mk (CV.iface t' v') (fun k => rfl) fun ρ ρ' hm x h => ?_
    cases h with
    | iface _ _ y h => exact .iface _ _ _ (hv ρ ρ' hm _ h)
  · exact Hands.mk _ (fun _ => rfl) (fun ρ ρ' _ x h => by cases h; exact .niliface)
  · intro s is
    refine Hands.bind (F := fun (s : Segs CV) (k : CV → OR) => k (.agg s)) is fun s' hs => Hands.mk (CV.agg s') (fun k => rfl) fun ρ ρ' hm x h => ?_
    cases h with
    | agg _ l hl h => exact VR.agg' (hs.2 ρ ρ' hm l ⟨hl, h⟩)
  · intro s is
    refine Hands.bind (F := fun (s : Segs CV) (k : CV → OR) => k (.tuple s)) is fun s' hs => Hands.mk (CV.tuple s') (fun k => rfl) fun ρ ρ' hm x h => ?_
    cases h with
    | tuple _ l hl h => exact VR.tuple' (hs.2 ρ ρ' hm l ⟨hl, h⟩)
  · intro n; exact Hands.mk (CV.atleast n) (fun k => forceN_eq n fun n => k (.atleast n)) (fun ρ ρ' _ x h => by cases h; exact .atleast _ _ (by assumption))
  · exact renS_nil g
  · exact fun v r iv ir => renS_one g v r iv ir
  · exact fun n val r ir => renS_bytes g n val r ir
theorem renS_ok (g : PT Bp) (s : Segs CV) : Hands (renS g s) (RSx g s) := by
  induction s with
  | nil => exact renS_nil g
  | one v r ih => exact renS_one g v r (renK_ok g v) ih
  | bytes n val r ih => exact renS_bytes g n val r ih
theorem renK_flat1 (g : PT Bp) {v : CV} (h : flatC v = true) (k : CV → OR) : renK g v k = k v := by
  cases v <;> first | (cases h; done) | skip
  · exact forceBool_eq _ fun b => k (.bool b)
  · exact forceZ_eq _ fun n => k (.int _ n)
  · show forceN _ (fun a => forceN _ fun b => k (.str a b)) = _
    rw [forceN_eq, forceN_eq]
  all_goals rfl
theorem renS_flat (g : PT Bp) {s : Segs CV} (h : flatS s = true) (k : Segs CV → OR) : renS g s k = k s := by
  induction s generalizing k with
  | nil => rfl
  | one v r ih =>
    have h : Bool.and (flatC v) (flatS r) = true := h
    rw [Bool.and_eq_true] at h
    show renK g v (fun v => renS g r fun r => k (.one v r)) = _
    rw [renK_flat1 g h.1, ih h.2]
  | bytes n val r ih =>
    have h : flatS r = true := h
    show forceN n (fun n => forceN val fun val => renS g r fun r => k (.bytes n val r)) = _
    rw [forceN_eq, forceN_eq, ih h]
theorem renK_flat (g : PT Bp) {v : CV} (h : flatV v = true) (k : CV → OR) : renK g v k = k v := by
  cases v <;> first | (cases h; done) | skip
  · rfl
  · exact forceBool_eq _ fun b => k (.bool b)
  · exact forceZ_eq _ fun n => k (.int _ n)
  · show forceN _ (fun a => forceN _ fun b => k (.str a b)) = _
    rw [forceN_eq, forceN_eq]
  iterate 5 rfl
  · rename_i s
    show renS g s (fun s => k (.agg s)) = _
    rw [renS_flat g h]

noncomputable def renE (g : PT Bp) (es : List Ent) : (List Ent → OR) → OR :=
  List.rec (motive := fun _ => (List Ent → OR) → OR) (fun k => k []) (fun e _ ih k => renK g e.1 fun a => renK g e.2.1 fun b => forceN e.2.2 fun n => ih fun r => k ((a, b, n) :: r)) es
def REx (g : PT Bp) (es es' : List Ent) : Prop := es.length = es'.length ∧ ∀ (i : Nat) (e e' : Ent), es[i]? = some e → es'[i]? = some e' → RVx g e.1 e'.1 ∧ RVx g e.2.1 e'.2.1 ∧ e'.2.2 = e.2.2
theorem renE_ok (g : PT Bp) (es : List Ent) : Hands (renE g es) (REx g es) := by
  induction es with
  | nil => exact Hands.mk [] (fun _ => rfl) ⟨rfl, fun i e e' a => by simp at a⟩
  | cons e es ih =>
    refine Hands.bind (F := fun (a : CV) (k : List Ent → OR) => renK g e.2.1 fun b => forceN e.2.2 fun n => renE g es fun r => k ((a, b, n) :: r)) (renK_ok g e.1) fun a ha => ?_
    refine Hands.bind (F := fun (b : CV) (k : List Ent → OR) => forceN e.2.2 fun n => renE g es fun r => k ((a, b, n) :: r)) (renK_ok g e.2.1) fun b hb => ?_
    refine Hands.bind (f := forceN e.2.2) (p := fun t' => t' = e.2.2) (F := fun (n : Nat) (k : List Ent → OR) => renE g es fun r => k ((a, b, n) :: r)) (Hands.mk _ (fun k => forceN_eq _ k) rfl) fun n hn => ?_
    refine Hands.bind (F := fun (r : List Ent) (k : List Ent → OR) => k ((a, b, n) :: r)) ih fun r hr => Hands.mk ((a, b, n) :: r) (fun _ => rfl) ⟨by simp [hr.1], fun i x x' h1 h2 => ?_⟩
    cases i with
    | zero => simp only [List.getElem?_cons_zero, Option.some.injEq] at h1 h2; subst h1; subst h2; exact ⟨ha, hb, hn⟩
    | succ i => simp only [List.getElem?_cons_succ] at h1 h2; exact hr.2 i x x' h1 h2
theorem renE_flat (g : PT Bp) {es : List Ent} (h : ∀ e ∈ es, flatV e.1 = true ∧ flatV e.2.1 = true) (k : List Ent → OR) : renE g es k = k es := by
  induction es generalizing k with
  | nil => rfl
  | cons e es ih =>
    show renK g e.1 (fun a => renK g e.2.1 fun b => forceN e.2.2 fun n => renE g es fun r => k ((a, b, n) :: r)) = _
    have h1 := h e (List.mem_cons_self ..)
    rw [renK_flat g h1.1, renK_flat g h1.2, forceN_eq, ih (fun e he => h e (List.mem_cons_of_mem _ he))]
noncomputable def renB (g : PT Bp) (b : Blk) : (Blk → OR) → OR :=
  Blk.rec (motive := fun _ => (Blk → OR) → OR) (fun s t gr k => renS g s fun s => forceN t fun t => forceBool gr fun gr => k (.cells s t gr)) (fun es c k => renE g es fun es => forceN c fun c => k (.map es c))
    (fun es k => bsel (allL es fun e => Bool.and (flatV e.1) (flatV e.2.1)) (renE g es fun es => k (.lmap es)) .bad) b
def RBx (g : PT Bp) (b b' : Blk) : Prop := ∀ ρ ρ', Maps g ρ ρ' → ∀ o sz, BR ρ b o sz → BR ρ' b' o sz
theorem renB_ok (g : PT Bp) (b : Blk) : Hands (renB g b) (RBx g b) := by
  cases b with
  | cells s t gr =>
    refine Hands.bind (F := fun (s : Segs CV) (k : Blk → OR) => forceN t fun t => forceBool gr fun gr => k (.cells s t gr)) (renS_ok g s) fun s' hs => Hands.mk (Blk.cells s' t gr) (fun k => ?_) fun ρ ρ' hm o sz h => ?_
    · rw [forceN_eq, forceBool_eq]
    · cases h with
      | cells _ _ _ c lo hi hlen hc hf hg =>
        have := hs.2 ρ ρ' hm _ hc
        exact .cells _ _ _ c lo hi (by rw [hs.1]; exact hlen) (by rw [hs.1]; exact this) hf hg
  | map es clock =>
    refine Hands.bind (F := fun (es : List Ent) (k : Blk → OR) => forceN clock fun c => k (.map es c)) (renE_ok g es) fun es' hs => Hands.mk (Blk.map es' clock) (fun k => forceN_eq _ fun c => k (.map es' c)) fun ρ ρ' hm o sz h => ?_
    cases h with
    | map _ _ l hl h =>
      refine .map es' clock l (hs.1.symm.trans hl) (fun i e e' a b => ?_) _
      have hi : i < es.length := by rw [hs.1]; exact (List.getElem?_eq_some_iff.1 a).1
      have h0 := h i es[i] e' (List.getElem?_eq_getElem hi) b
      have h1 := hs.2 i es[i] e (List.getElem?_eq_getElem hi) a
      exact ⟨h1.1 ρ ρ' hm _ h0.1, h1.2.1 ρ ρ' hm _ h0.2.1, h1.2.2.trans h0.2.2⟩
  | lmap es =>
    by_cases hf : (allL es fun e => Bool.and (flatV e.1) (flatV e.2.1)) = true
    · have hall : ∀ e ∈ es, flatV e.1 = true ∧ flatV e.2.1 = true := fun e he => by
        have := allL_iff.1 hf e he
        rwa [Bool.and_eq_true] at this
      refine Hands.mk (Blk.lmap es) (fun k => ?_) fun ρ ρ' hm o sz h => ?_
      · show bsel (allL es fun e => Bool.and (flatV e.1) (flatV e.2.1)) (renE g es fun es => k (.lmap es)) .bad = _
        rw [bsel_eq, if_pos hf, renE_flat g hall]
      · cases h with
        | lmap _ l clock es' hp hi hn hs hl h =>
          refine .lmap es l clock es' hp hi hn hs hl (fun i e e' a b => ?_) _
          have h0 := h i e e' a b
          have h1 := hall e (hp.mem_iff.1 (List.mem_of_getElem? a))
          exact ⟨flatV_VR h1.1 h0.1, flatV_VR h1.2 h0.2⟩
    · refine .inl fun k => ?_
      show bsel (allL es fun e => Bool.and (flatV e.1) (flatV e.2.1)) (renE g es fun es => k (.lmap es)) .bad = _
      rw [bsel_eq, if_neg hf]
noncomputable def renL (g : PT Bp) (l : List CV) : (List CV → OR) → OR := List.rec (motive := fun _ => (List CV → OR) → OR) (fun k => k []) (fun v _ ih k => renK g v fun v => ih fun r => k (v :: r)) l
theorem renL_ok (g : PT Bp) (l : List CV) : Hands (renL g l) (fun l' => ∀ ρ ρ', Maps g ρ ρ' → ∀ x, VRs ρ l x → VRs ρ' l' x) := by
  induction l with
  | nil => exact Hands.mk [] (fun _ => rfl) fun ρ ρ' _ x h => ⟨h.len, fun i v v' a => by simp at a⟩
  | cons v l ih =>
    refine Hands.bind (F := fun (v : CV) (k : List CV → OR) => renL g l fun r => k (v :: r)) (renK_ok g v) fun v' hv => ?_
    refine Hands.bind (F := fun (r : List CV) (k : List CV → OR) => k (v' :: r)) ih fun r hr => Hands.mk (v' :: r) (fun _ => rfl) fun ρ ρ' hm x h => ?_
    obtain ⟨y, t, rfl, h1, h2⟩ := h.inv
    exact VRs.cons (hv ρ ρ' hm y h1) (hr ρ ρ' hm t h2)

/- memories -/
noncomputable def buildM (g : PT Bp) (src : PT Blk) (acc : List Bp) : PT Blk → (PT Blk → OR) → OR :=
  List.rec (motive := fun _ => PT Blk → (PT Blk → OR) → OR) (fun M k => k M)
    (fun b _ ih M k => optB (g.get b) fun i => Option.rec (motive := fun _ => OR) (PT.force (M.put i none) fun M => ih M k) (fun blk => renB g blk fun blk => PT.force (M.put i (some blk)) fun M => ih M k) (src.get b)) acc
def ROx (g : PT Bp) (x y : Option Blk) : Prop := (x = none ∧ y = none) ∨ ∃ b b', x = some b ∧ y = some b' ∧ RBx g b b'
def Built (g : PT Bp) (src : PT Blk) (acc : List Bp) (M M' : PT Blk) : Prop := ∀ i, (∃ b, b ∈ acc ∧ g.get b = some i ∧ ROx g (src.get b) (M'.get i)) ∨ ((∀ b ∈ acc, g.get b ≠ some i) ∧ M'.get i = M.get i)
theorem buildM_ok (g : PT Bp) (src : PT Blk) (acc : List Bp) : ∀ M, Hands (buildM g src acc M) (Built g src acc M) := by
  induction acc with
  | nil => exact fun M => Hands.mk M (fun _ => rfl) fun i => .inr ⟨fun _ h => absurd h List.not_mem_nil, rfl⟩
  | cons b acc ih =>
    intro M
    have key : ∀ (i : Bp) (x : Option Blk) (hi : g.get b = some i), ROx g (src.get b) x → Hands (fun k => PT.force (M.put i x) fun M => buildM g src acc M k) (Built g src (b :: acc) M) := by
      intro i x hi hx
      rcases ih (M.put i x) with h | ⟨M', h, hb⟩
      · exact .inl fun k => (PT.force_eq _ _).trans (h k)
      · refine Hands.mk M' (fun k => (PT.force_eq _ _).trans (h k)) fun j => ?_
        rcases hb j with ⟨c, hc, h1, h2⟩ | ⟨h1, h2⟩
        · exact .inl ⟨c, List.mem_cons_of_mem _ hc, h1, h2⟩
        · by_cases e : j = i
          · subst e
            rw [PT.get_put_same] at h2
            exact .inl ⟨b, List.mem_cons_self .., hi, by rw [h2]; exact hx⟩
          · rw [PT.get_put_ne _ _ _ _ e] at h2
            refine .inr ⟨fun c hc => ?_, h2⟩
            rcases List.mem_cons.1 hc with rfl | hc
            · rw [hi]; intro e'; cases e'; exact e rfl
            · exact h1 c hc
    refine Hands.bind (F := fun (i : Bp) (k : PT Blk → OR) => Option.rec (motive := fun _ => OR) (PT.force (M.put i none) fun M => buildM g src acc M k) (fun blk => renB g blk fun blk => PT.force (M.put i (some blk)) fun M => buildM g src acc M k) (src.get b)) (Hands.optB (g.get b)) fun i hi => ?_
    cases hs : src.get b with
    | none => exact key i none hi (.inl ⟨hs, rfl⟩)
    | some blk => exact Hands.bind (F := fun (blk : Blk) (k : PT Blk → OR) => PT.force (M.put i (some blk)) fun M => buildM g src acc M k) (renB_ok g blk) fun blk' hb => key i (some blk') hi (.inr ⟨blk, blk', hs, rfl, hb⟩)

noncomputable def onO (r : OR) (k : CV → St → OR) : OR := OR.rec (motive := fun _ => OR) (fun v s => k v s) .bad r
noncomputable def reloB (σ : VS) (next : Bp) (mem : PT Blk) (v : CV) (ms : PT Blk) (nx : Bp) : OR :=
  forceN nx.dec fun m => visV m v ⟨σ.h, σ.g, next, σ.img, σ.img, σ.acc⟩ fun τ => visLoop m ms 100000 τ fun τ => renK τ.g v fun v => buildM τ.g ms τ.acc mem fun M => .ok v ⟨M, τ.n⟩
noncomputable def reloA (F : FunX) (call : CallF) (args : List CV) (st : St) : OR :=
  forceN st.next.dec fun m => visL m args ⟨PT.nil, PT.nil, Bp.e, [], [], []⟩ fun σ => visLoop m st.mem 100000 σ fun σ => renL σ.g args fun args => buildM σ.g st.mem σ.acc PT.nil fun small =>
    onO (F call args ⟨small, σ.n⟩) fun v s => PT.force s.mem fun ms => reloB σ st.next st.mem v ms s.next
noncomputable def reloG (F : FunX) : FunX := fun call args st => OR.rec (motive := fun _ => OR) (fun v s => .ok v s) (F call args st) (reloA F call args st)

section
variable {P : Program} {f : Nat}
theorem onO_ok {r : OR} {k : CV → St → OR} {v : CV} {st : St} (h : onO r k = .ok v st) : ∃ v1 s1, r = .ok v1 s1 ∧ k v1 s1 = .ok v st := by
  cases r with
  | bad => cases h
  | ok v1 s1 => exact ⟨v1, s1, rfl, h⟩
theorem Hands.run {α : Type} {f : (α → OR) → OR} {p : α → Prop} (h : Hands f p) {k : α → OR} {v : CV} {st : St} (hr : f k = .ok v st) : ∃ a, p a ∧ k a = .ok v st := by
  rcases h with h | ⟨a, h, hp⟩
  · rw [h] at hr; cases hr
  · rw [h] at hr; exact ⟨a, hp, hr⟩
theorem VOK.run {m : Nat} {f : VK} (h : VOK m f) {σ : VS} {k : VS → OR} {v : CV} {st : St} (hr : f σ k = .ok v st) : ∃ σ', Ext m σ σ' ∧ k σ' = .ok v st := by
  rcases h σ k with e | ⟨σ', e, hx⟩
  · rw [e] at hr; cases hr
  · rw [e] at hr; exact ⟨σ', hx, hr⟩
theorem ROx.some {g : PT Bp} {x : Option Blk} {b' : Blk} (h : ROx g x (some b')) : ∃ b, x = some b ∧ RBx g b b' := by
  rcases h with ⟨_, h⟩ | ⟨b, c, h1, h2, h3⟩
  · cases h
  · cases h2; exact ⟨b, h1, h3⟩
noncomputable def renBack (h : PT Bp) (ρ ρs : Ren) : Ren := fun B => Option.rec (motive := fun _ => Option (Nat × Nat)) (ρ B) (fun q => ρs q) (h.get B)
theorem reloA_ok {F : FunX} {call : CallF} (hF : ∀ args st v st', F call args st = .ok v st' → callable P f = true ∧ CallOK P f args st v st') {args : List CV} {st : St} {v : CV} {st' : St} (h : reloA F call args st = .ok v st') : callable P f = true ∧ CallOK P f args st v st' := by
  unfold reloA at h
  rw [forceN_eq] at h
  obtain ⟨σ0, x0, h⟩ := (visL_ok _ _).run h
  obtain ⟨σ, x1, h⟩ := (visLoop_ok _ _ _).run h
  obtain ⟨args1, hargs, h⟩ := (renL_ok _ _).run h
  obtain ⟨small, hsmall, h⟩ := (buildM_ok _ _ _ _).run h
  obtain ⟨v1, s1, hrun, h⟩ := onO_ok h
  rw [PT.force_eq] at h
  unfold reloB at h
  rw [forceN_eq] at h
  obtain ⟨τ0, y0, h⟩ := (visV_ok _ _).run h
  obtain ⟨τ, y1, h⟩ := (visLoop_ok _ _ _).run h
  obtain ⟨v2, hv2, h⟩ := (renK_ok _ _).run h
  obtain ⟨M, hM, h⟩ := (buildM_ok _ _ _ _).run h
  cases h
  obtain ⟨hcall, hok⟩ := hF _ _ _ _ hrun
  have gσ : Good st.next.dec σ := (x0.trans x1).good ⟨fun b i h => absurd h (by rw [PT.get_nil]; exact fun e => nomatch e), fun b i h => absurd h (by rw [PT.get_nil]; exact fun e => nomatch e), fun b i h => absurd h (by rw [PT.get_nil]; exact fun e => nomatch e), fun b i h => absurd h (by rw [PT.get_nil]; exact fun e => nomatch e), fun b i h => absurd h (by rw [PT.get_nil]; exact fun e => nomatch e), fun b i h => absurd h (by rw [PT.get_nil]; exact fun e => nomatch e)⟩
  have y := y0.trans y1
  refine ⟨hcall, fun ρ w args' hw ha => ?_⟩
  have hmap : Maps σ.g ρ (renBack σ.h noRen ρ) := fun b q y h1 h2 => by
    show Option.rec (motive := fun _ => Option (Nat × Nat)) _ _ (σ.h.get q) = _
    rw [gσ.gh b q h1]; exact h2
  have hρs : ∀ i x, renBack σ.h noRen ρ i = some x → ∃ b, σ.h.get i = some b ∧ ρ b = some x := fun i x hx => by
    have hx : Option.rec (motive := fun _ => Option (Nat × Nat)) (noRen i) (fun q => ρ q) (σ.h.get i) = some x := hx
    cases hh : σ.h.get i with
    | none => rw [hh] at hx; cases hx
    | some b => rw [hh] at hx; exact ⟨b, rfl, hx⟩
  have hsrc : ∀ i blk, small.get i = some blk → ∃ b blk0, σ.g.get b = some i ∧ st.mem.get b = some blk0 ∧ RBx σ.g blk0 blk := fun i blk hi => by
    rcases hsmall i with ⟨b, _, h1, h2⟩ | ⟨_, h2⟩
    · rw [hi] at h2
      obtain ⟨blk0, h3, h4⟩ := h2.some
      exact ⟨b, blk0, h1, h3, h4⟩
    · rw [hi, PT.get_nil] at h2; cases h2
  have hws : WR (renBack σ.h noRen ρ) ⟨small, σ.n⟩ w := by
    have hor : ∀ i blk r sz, small.get i = some blk → renBack σ.h noRen ρ i = some (r, sz) → (∃ b0 blk0 sz0, st.mem.get b0 = some blk0 ∧ ρ b0 = some (r, sz0)) ∨ w.heap.size ≤ r := fun i blk r sz h1 h2 => by
      obtain ⟨b, blk0, g1, g2, g3⟩ := hsrc i blk h1
      obtain ⟨b', g4, g5⟩ := hρs i _ h2
      rw [gσ.gh b i g1] at g4; cases g4
      exact .inl ⟨b, blk0, sz, g2, g5⟩
    refine ⟨fun i blk r sz h1 h2 => ?_, fun i i' blk blk' r sz sz' h1 h2 h3 h4 => ?_, fun i x hx => ?_, hw.glob.keep hor (fun _ _ _ => rfl)⟩
    · obtain ⟨b, blk0, g1, g2, g3⟩ := hsrc i blk h1
      obtain ⟨b', g4, g5⟩ := hρs i _ h2
      rw [gσ.gh b i g1] at g4; cases g4
      obtain ⟨o, ho, hb⟩ := hw.at' b blk0 r sz g2 g5
      exact ⟨o, ho, g3 ρ _ hmap o sz hb⟩
    · obtain ⟨b, blk0, g1, g2, g3⟩ := hsrc i blk h1
      obtain ⟨b', g4, g5⟩ := hρs i _ h3
      rw [gσ.gh b i g1] at g4; cases g4
      obtain ⟨c, blk1, k1, k2, k3⟩ := hsrc i' blk' h2
      obtain ⟨c', k4, k5⟩ := hρs i' _ h4
      rw [gσ.gh c i' k1] at k4; cases k4
      have := hw.inj b c blk0 blk1 r sz sz' g2 k2 g5 k5
      subst this
      rw [g1] at k1; cases k1; rfl
    · obtain ⟨b', g4, g5⟩ := hρs i _ hx
      exact gσ.lt b' i (gσ.hg b' i g4)
  refine (hok _ w args' hws (hargs ρ _ hmap _ ha)).mono ?_
  rintro e w' ⟨x, ρs', rfl, hvx, hA⟩
  have gτ : Good s1.next.dec τ := y.good ⟨fun i b h => gσ.hg b i h, fun i b h => gσ.gh b i h, fun i b h => gσ.bd b i (gσ.hg b i h), fun i b h => Nat.lt_of_lt_of_le (gσ.lt b i (gσ.hg b i h)) hA.next, fun i b h => gσ.img b i (gσ.hg b i h), fun i b h => gσ.acc b i (gσ.hg b i h)⟩
  have yn : st.next.dec ≤ τ.n.dec := y.le
  have ynew : ∀ q B, τ.g.get q = some B → σ.h.get q = some B ∨ st.next.dec ≤ B.dec := fun q B h => y.new q B h
  have ykeep : ∀ q B, σ.h.get q = some B → τ.g.get q = some B := fun q B h => y.keep q B h
  have hback : ∀ B q, τ.h.get B = some q → renBack τ.h ρ ρs' B = ρs' q := fun B q h => by
    show Option.rec (motive := fun _ => Option (Nat × Nat)) _ _ (τ.h.get B) = _
    rw [h]
  have hback0 : ∀ B, τ.h.get B = none → renBack τ.h ρ ρs' B = ρ B := fun B h => by
    show Option.rec (motive := fun _ => Option (Nat × Nat)) _ _ (τ.h.get B) = _
    rw [h]
  have hmap2 : Maps τ.g ρs' (renBack τ.h ρ ρs') := fun q B y h1 h2 => by rw [hback B q (gτ.gh q B h1)]; exact h2
  have hlow : ∀ B q, B.dec < st.next.dec → τ.h.get B = some q → σ.h.get q = some B := fun B q hB h => by
    rcases ynew q B (gτ.hg q B h) with e | e
    · exact e
    · omega
  have hsub : ∀ i b, σ.h.get i = some b → renBack σ.h noRen ρ i = ρ b := fun i b h => by
    show Option.rec (motive := fun _ => Option (Nat × Nat)) _ _ (σ.h.get i) = _
    rw [h]
  have hle : ρ.le (renBack τ.h ρ ρs') := fun B y hy => by
    cases hh : τ.h.get B with
    | none => rw [hback0 B hh]; exact hy
    | some q =>
      rw [hback B q hh]
      refine hA.ext q y ?_
      rw [hsub q B (hlow B q (hw.fresh B y hy) hh)]; exact hy
  have hsz : ∀ B blk r sz, st.mem.get B = some blk → ρ B = some (r, sz) → r < w.heap.size := fun B blk r sz h1 h2 => by
    obtain ⟨o, e2, _⟩ := hw.at' B blk r sz h1 h2
    exact (Array.getElem?_eq_some_iff.1 e2).1
  have hup : ∀ i blk r sz, small.get i = some blk → renBack σ.h noRen ρ i = some (r, sz) → ∃ b blk0, st.mem.get b = some blk0 ∧ ρ b = some (r, sz) ∧ σ.g.get b = some i := fun i blk r sz h1 h2 => by
    obtain ⟨b, blk0, g1, g2, g3⟩ := hsrc i blk h1
    rw [hsub i b (gσ.gh b i g1)] at h2
    exact ⟨b, blk0, g2, h2, g1⟩
  have hsel : ∀ B blk, M.get B = some blk → (∃ q blk1, τ.h.get B = some q ∧ s1.mem.get q = some blk1 ∧ RBx τ.g blk1 blk) ∨ (τ.h.get B = none ∧ st.mem.get B = some blk) := fun B blk hB => by
    rcases hM B with ⟨q, _, h1, h2⟩ | ⟨h1, h2⟩
    · rw [hB] at h2
      obtain ⟨blk1, h3, h4⟩ := h2.some
      exact .inl ⟨q, blk1, gτ.gh q B h1, h3, h4⟩
    · refine .inr ⟨?_, by rw [← h2]; exact hB⟩
      cases hh : τ.h.get B with
      | none => rfl
      | some q =>
        have := gτ.hg q B hh
        exact absurd this (h1 q (gτ.acc q B this))
  have hor : ∀ B blk r sz, M.get B = some blk → renBack τ.h ρ ρs' B = some (r, sz) → (∃ b0 blk0 sz0, st.mem.get b0 = some blk0 ∧ ρ b0 = some (r, sz0)) ∨ w.heap.size ≤ r := fun B blk r sz h1 h2 => by
    rcases hsel B blk h1 with ⟨q, blk1, g1, g2, g3⟩ | ⟨g1, g2⟩
    · rw [hback B q g1] at h2
      rcases hA.origin q blk1 r sz g2 h2 with ⟨i, blk0, sz0, m1, m2⟩ | m
      · obtain ⟨b, blk3, m3, m4, m5⟩ := hup i blk0 r sz0 m1 m2
        exact .inl ⟨b, blk3, sz0, m3, m4⟩
      · exact .inr m
    · rw [hback0 B g1] at h2
      exact .inl ⟨B, blk, sz, g2, h2⟩
  have hkp : ∀ r : Nat, r < w.heap.size → (∀ b blk sz, st.mem.get b = some blk → ρ b ≠ some (r, sz)) → w'.heap[r]? = w.heap[r]? := fun r hr hk => by
    refine hA.kept r hr fun i blk0 sz0 k1 k2 => ?_
    obtain ⟨b, blk1, k3, k4, k5⟩ := hup i blk0 r sz0 k1 k2
    exact hk b blk1 sz0 k3 k4
  refine ⟨x, renBack τ.h ρ ρs', rfl, hv2 ρs' _ hmap2 x hvx, ⟨⟨fun B blk r sz h1 h2 => ?_, fun B B' blk blk' r sz sz' h1 h2 h3 h4 => ?_, fun B x hx => ?_, hw.glob.keep hor hkp⟩, hle, fun B hB hn => ?_, yn, hor, hkp, hA.size, hA.os, hA.output⟩⟩
  · rcases hsel B blk h1 with ⟨q, blk1, g1, g2, g3⟩ | ⟨g1, g2⟩
    · rw [hback B q g1] at h2
      obtain ⟨o, ho, hb⟩ := hA.wr.at' q blk1 r sz g2 h2
      exact ⟨o, ho, g3 ρs' _ hmap2 o sz hb⟩
    · rw [hback0 B g1] at h2
      obtain ⟨o, ho, hb⟩ := hw.at' B blk r sz g2 h2
      refine ⟨o, ?_, hb.mono hle⟩
      rw [hA.kept r (hsz B blk r sz g2 h2) fun i blk0 sz0 k1 k2 => ?_]
      · exact ho
      · obtain ⟨b, blk1, k3, k4, k5⟩ := hup i blk0 r sz0 k1 k2
        have := hw.inj B b blk blk1 r sz sz0 g2 k3 h2 k4
        subst this
        have := gτ.gh i B (ykeep i B (gσ.gh B i k5))
        rw [g1] at this; cases this
  · rcases hsel B blk h1 with ⟨q, blk1, g1, g2, g3⟩ | ⟨g1, g2⟩
    · rw [hback B q g1] at h3
      rcases hsel B' blk' h2 with ⟨q', blk2, k1, k2, k3⟩ | ⟨k1, k2⟩
      · rw [hback B' q' k1] at h4
        have := hA.wr.inj q q' blk1 blk2 r sz sz' g2 k2 h3 h4
        subst this
        have e1 := gτ.hg q B g1
        have e2 := gτ.hg q B' k1
        rw [e1] at e2; cases e2; rfl
      · rw [hback0 B' k1] at h4
        rcases hA.origin q blk1 r sz g2 h3 with ⟨i, blk0, sz0, m1, m2⟩ | m
        · obtain ⟨b, blk3, m3, m4, m5⟩ := hup i blk0 r sz0 m1 m2
          have := hw.inj B' b blk' blk3 r sz' sz0 k2 m3 h4 m4
          subst this
          have := gτ.gh i B' (ykeep i B' (gσ.gh B' i m5))
          rw [k1] at this; cases this
        · have := hsz B' blk' r sz' k2 h4; omega
    · rw [hback0 B g1] at h3
      rcases hsel B' blk' h2 with ⟨q', blk2, k1, k2, k3⟩ | ⟨k1, k2⟩
      · rw [hback B' q' k1] at h4
        rcases hA.origin q' blk2 r sz' k2 h4 with ⟨i, blk0, sz0, m1, m2⟩ | m
        · obtain ⟨b, blk3, m3, m4, m5⟩ := hup i blk0 r sz0 m1 m2
          have := hw.inj B b blk blk3 r sz sz0 g2 m3 h3 m4
          subst this
          have := gτ.gh i B (ykeep i B (gσ.gh B i m5))
          rw [g1] at this; cases this
        · have := hsz B blk r sz g2 h3; omega
      · rw [hback0 B' k1] at h4
        exact hw.inj B B' blk blk' r sz sz' g2 k2 h3 h4
  · show B.dec < τ.n.dec
    cases hh : τ.h.get B with
    | none => rw [hback0 B hh] at hx; have := hw.fresh B x hx; omega
    | some q => exact gτ.lt q B (gτ.hg q B hh)
  · cases hh : τ.h.get B with
    | none => rw [hback0 B hh]; exact hn
    | some q =>
      rw [hback B q hh]
      have h5 := hlow B q hB hh
      exact hA.dom q (gσ.lt B q (gσ.hg B q h5)) (by rw [hsub q B h5]; exact hn)
theorem reloG_ok {F : FunX} {call : CallF} (hF : ∀ args st v st', F call args st = .ok v st' → callable P f = true ∧ CallOK P f args st v st') {args : List CV} {st : St} {v : CV} {st' : St} (h : reloG F call args st = .ok v st') : callable P f = true ∧ CallOK P f args st v st' := by
  unfold reloG at h
  cases hr : reloA F call args st with
  | bad => rw [hr] at h; exact hF _ _ _ _ h
  | ok v1 s1 => rw [hr] at h; cases h; exact reloA_ok hF hr
end
end Sim

/- Sim, part 47: tables of contracts in which calls are asked in a small memory of their own. -/
namespace Sim
open Go
noncomputable def reloO (o : Option FunX) : Option FunX := Option.rec none (fun F => some (reloG F)) o
/-- What a function of a table answers is so. -/
def Strong (P : Program) (f : Nat) (call : CallF) (o : Option FunX) : Prop := ∀ g, o = some g → ∀ args st v st', g call args st = .ok v st' → callable P f = true ∧ CallOK P f args st v st'
section
variable {P : Program} {f : Nat} {call : CallF}
theorem Strong.out {o : Option FunX} (h : Strong P f call o) : ∀ g, o = some g → ∀ args st v st', g call args st = .ok v st' → CallOut P f args st v st' :=
  fun g hg args st v st' hv => .inl (h g hg args st v st' hv)
theorem funXK_strong (hm : P.follows .mixedOrders = true) (hc : CallSound P call) : Strong P f call (funXK P f) :=
  fun _ hg _ _ _ _ h => funXK_plain hm hg hc h
theorem snapI_strong {S : Snap} {call0 : CallF} {o : Option FunX} (hm : P.follows .mixedOrders = true) (h0 : CallSound P call0) (hs : S.isF P f call0 = true) (ho : Strong P f call o) : Strong P f call (snapI S o) := by
  intro g hg args st v st' h
  cases o with
  | none => cases hg
  | some g0 =>
    cases hg
    unfold snapG at h
    rw [bsel_eq] at h
    split at h
    · rename_i hfit
      cases h
      unfold Snap.isF at hs
      cases hF : funXK P f with
      | none => rw [hF] at hs; cases hs
      | some F => rw [hF] at hs; exact snap_ok hm hF h0 hs hfit
    · exact ho g0 rfl _ _ _ _ h
theorem reloO_strong {o : Option FunX} (ho : Strong P f call o) : Strong P f call (reloO o) := by
  intro g hg args st v st' h
  cases o with
  | none => cases hg
  | some g0 => cases hg; exact reloG_ok (fun _ _ _ _ h => ho g0 rfl _ _ _ _ h) h
end
end Sim

/- Sim, part 47: a call whose arguments are numbers, said for a stretch of them. -/
namespace Sim
open Go
noncomputable def saysA (v : CV) (args : List CV) (P : Program) (f : Nat) (call : CallF) : Bool :=
  Bool.and (allL args flatV) (Option.rec (motive := fun _ => Bool) false (fun F => match F call args ⟨.nil, .e⟩ with | .ok u _ => Bool.and (flatT v) (cvEq v u) | .bad => false) (funXK P f))
theorem saysA_sound {P : Program} {f : Nat} {v0 : CV} {call0 : CallF} (hm : P.follows .mixedOrders = true) (h0 : CallSound P call0) {args : List CV} (hs : saysA v0 args P f call0 = true) (st : St) : callable P f = true ∧ CallOK P f args st v0 st := by
  unfold saysA at hs
  rw [Bool.and_eq_true] at hs
  obtain ⟨ha, hs⟩ := hs
  cases hF : funXK P f with
  | none => rw [hF] at hs; cases hs
  | some F =>
    rw [hF] at hs
    dsimp only at hs
    split at hs
    · rename_i u s1 hr
      rw [Bool.and_eq_true] at hs
      have hu := cvEq_sound _ _ hs.2
      subst hu
      obtain ⟨h1, h2⟩ := funXK_plain hm hF h0 hr
      exact ⟨h1, h2.flat ha hs.1 st⟩
    · cases hs
/-- A stretch of numbers. -/
noncomputable def rangeB (lo : Nat) (p : Nat → Bool) (cnt : Nat) : Bool := Nat.rec (motive := fun _ => Bool) true (fun k ih => Bool.and ih (forceN (Nat.add lo k) p)) cnt
theorem rangeB_iff {lo : Nat} {p : Nat → Bool} {cnt : Nat} (h : rangeB lo p cnt = true) : ∀ i, lo ≤ i → i < lo + cnt → p i = true := by
  induction cnt with
  | zero => intro i h1 h2; omega
  | succ k ih =>
    intro i h1 h2
    have h : Bool.and (rangeB lo p k) (forceN (Nat.add lo k) p) = true := h
    rw [Bool.and_eq_true, forceN_eq] at h
    rcases Nat.lt_or_ge i (lo + k) with hl | hg
    · exact ih h.1 i h1 hl
    · have : i = Nat.add lo k := by show i = lo + k; omega
      rw [this]; exact h.2
/-- One number as the argument: below n the answer is v. -/
noncomputable def upG (n : Nat) (v : CV) : FunX := fun _ args st => match args with
  | [.int .i64 (.ofNat i)] => bsel (Nat.ble (Nat.succ i) n) (.ok v st) .bad
  | _ => .bad
theorem upG_sound {P : Program} {f n : Nat} {v0 : CV} {call0 call : CallF} (hm : P.follows .mixedOrders = true) (h0 : CallSound P call0) (hs : ∀ i, i < n → saysA v0 [.int .i64 (.ofNat i)] P f call0 = true) (args : List CV) (st : St) (v : CV) (st' : St) (h : upG n v0 call args st = .ok v st') : CallOut P f args st v st' := by
  unfold upG at h
  split at h
  · rename_i i
    rw [bsel_eq] at h
    split at h
    · rename_i hlt
      rw [Nat.ble_eq] at hlt
      cases h
      exact .inl (saysA_sound hm h0 (hs i hlt) st)
    · cases h
  · cases h
end Sim

/- Sim, part 49: a call asked in a memory from which one block is taken away: what it does not look at stays as it is. -/
namespace Sim
open Go
/-- The block that a value's first cells lead to. -/
noncomputable def followV (st : St) (n : Nat) : CV → Option Bp :=
  Nat.rec (motive := fun _ => CV → Option Bp) (fun v => match v with | .ptr b _ => some b | _ => none)
    (fun _ ih v => match v with | .ptr b _ => (match st.mem.get b with | some (.cells s _ _) => (match s.get byteV 0 with | some v => ih v | none => none) | _ => none) | _ => none) n
noncomputable def dropAt (b : Bp) (F : FunX) : FunX := fun call args st =>
  bsel (Nat.ble (Nat.succ b.dec) st.next.dec) (PT.force (st.mem.put b none) fun m =>
    OR.rec (motive := fun _ => OR) (fun v s => PT.force (s.mem.put b (st.mem.get b)) fun m' => .ok v ⟨m', s.next⟩) .bad (F call args ⟨m, st.next⟩)) .bad
noncomputable def dropB (n : Nat) (F : FunX) : FunX := fun call args st => match args with
  | v :: _ => (match followV st n v with | some b => dropAt b F call args st | none => .bad)
  | [] => .bad
noncomputable def dropG (n : Nat) (F : FunX) : FunX := fun call args st => OR.rec (motive := fun _ => OR) (fun v s => .ok v s) (F call args st) (dropB n F call args st)
noncomputable def dropO (n : Nat) (o : Option FunX) : Option FunX := Option.rec none (fun F => some (dropG n F)) o
section
variable {P : Program} {f : Nat} {call : CallF}
theorem dropAt_ok {b : Bp} {F : FunX} (hF : ∀ args st v st', F call args st = .ok v st' → callable P f = true ∧ CallOK P f args st v st') {args : List CV} {st : St} {v : CV} {st' : St} (h : dropAt b F call args st = .ok v st') : callable P f = true ∧ CallOK P f args st v st' := by
  unfold dropAt at h
  rw [bsel_eq] at h
  split at h
  · rename_i hb
    rw [Nat.ble_eq] at hb
    rw [PT.force_eq] at h
    cases hr : F call args ⟨st.mem.put b none, st.next⟩ with
    | bad => rw [hr] at h; cases h
    | ok v1 s1 =>
      rw [hr] at h
      dsimp only at h
      rw [PT.force_eq] at h
      cases h
      obtain ⟨h1, h2⟩ := hF _ _ _ _ hr
      refine ⟨h1, fun ρ w args' hw ha => ?_⟩
      have hm : ∀ q x, ρ q = some x → (⟨st.mem.put b none, st.next⟩ : St).mem.get q = st.mem.get q ∨ (⟨st.mem.put b none, st.next⟩ : St).mem.get q = none := fun q x _ => by
        by_cases e : q = b
        · subst e; exact .inr (PT.get_put_same _ _ _)
        · exact .inl (PT.get_put_ne _ _ _ _ e)
      refine (h2 ρ w args' (hw.sub hm rfl) ha).mono ?_
      rintro e w' ⟨v', ρ', rfl, hv, hA⟩
      refine ⟨v', ρ', rfl, hv, After.frame (s := ⟨st.mem.put b none, st.next⟩) hw rfl hm hA rfl fun q x hx => ?_⟩
      by_cases e : q = b
      · subst e
        refine .inr ⟨?_, PT.get_put_same _ _ _, PT.get_put_same _ _ _⟩
        cases hq : ρ q with
        | some y => exact ⟨y, rfl⟩
        | none =>
          have := hA.dom q (by show q.dec < st.next.dec; omega) hq
          rw [hx] at this; cases this
      · exact .inl (PT.get_put_ne _ _ _ _ e)
  · cases h
theorem dropG_ok {n : Nat} {F : FunX} (hF : ∀ args st v st', F call args st = .ok v st' → callable P f = true ∧ CallOK P f args st v st') {args : List CV} {st : St} {v : CV} {st' : St} (h : dropG n F call args st = .ok v st') : callable P f = true ∧ CallOK P f args st v st' := by
  unfold dropG at h
  cases hr : dropB n F call args st with
  | bad => rw [hr] at h; exact hF _ _ _ _ h
  | ok v1 s1 =>
    rw [hr] at h; cases h
    unfold dropB at hr
    split at hr
    · split at hr
      · exact dropAt_ok hF hr
      · cases hr
    · cases hr
theorem dropO_strong {n : Nat} {o : Option FunX} (ho : Strong P f call o) : Strong P f call (dropO n o) := by
  intro g hg args st v st' h
  cases o with
  | none => cases hg
  | some g0 => cases hg; exact dropG_ok (fun _ _ _ _ h => ho g0 rfl _ _ _ _ h) h
end
end Sim
