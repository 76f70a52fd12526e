import Derived.Test.YtfojoloiahhphaaGreatDoorSimX5
import Derived.Lib.Overlaps
import Derived.Laws.Externs
/- Sim, part 40: functions that are asked by contracts of their own: slices.overlaps, slices.Insert. -/
namespace Sim
open Go

/- slices.overlaps at slices in two blocks -/
noncomputable def ovG : FunX := fun _ args st =>
  match args with
  | [.slice bx _ _ _ _, .slice by' _ _ _ _] => bsel (bpEq bx by') .bad
      (match st.mem.get bx, st.mem.get by' with
      | some (.cells _ _ g), some (.cells s _ _) => bsel g .bad (bsel (Nat.ble 1 s.size) (.ok (.bool false) st) .bad)
      | _, _ => .bad)
  | _ => .bad
/-- f is slices.overlaps at slices of one type. -/
structure OvFn (P : Program) (f : Nat) : Prop where
  out : ∃ (tS tR e : TypeId) (size : Nat), P.underlying tS = some (.slice e) ∧ (∀ w, (Go.sizeOf e).run P w = .ok size w) ∧
    ∀ (args : Array Value) (w : World), (callFunc f args).run P w = ((Extern.SlicesOverlaps.overlaps #[tS, tS] #[tR] args).run P w).andThen fun v w' => .ok (.value v) w'
theorem ovG_sound {P : Program} {f : Nat} (hf : OvFn P f) (call : CallF) (args : List CV) (st : St) (v : CV) (st' : St) (h : ovG call args st = .ok v st') : CallOut P f args st v st' := by
  obtain ⟨tS, tR, e, size, h1, h2, h3⟩ := hf.out
  unfold ovG at h
  split at h
  · rename_i bx ox lx cx gx by' oy ly cy gy
    rw [bsel_eq] at h
    split at h
    · cases h
    · rename_i hne
      split at h
      · rename_i s1 t1 g s2 t2 g2 m1 m2
        rw [bsel_eq] at h
        split at h
        · cases h
        · rename_i hg
          have hg : g = false := by simpa using hg
          subst hg
          simp only [bsel_eq, Nat.ble_eq] at h
          split at h
          · rename_i hs
            cases h
            refine .inr ⟨rfl, fun ρ w args' hw ha => ?_⟩
            obtain ⟨x', t', e1, hx, ha2⟩ := ha.inv
            obtain ⟨y', t2', e2, hy, ha3⟩ := ha2.inv
            have e3 : t2' = [] := by have := ha3.len; simpa using this.symm
            subst e3; subst e2
            have e4 : args' = #[x', y'] := by rw [← Array.toArray_toList (xs := args'), e1]
            subst e4
            obtain ⟨r1, z1, o1, k1, rfl, hr1, _⟩ := hx.slice_inv
            obtain ⟨r2, z2, o2, k2, rfl, hr2, _⟩ := hy.slice_inv
            obtain ⟨c1, lo1, hi1, a1, a2, a3, a4, a5⟩ := hw.row m1 hr1
            obtain ⟨c2, lo2, hi2, b1, b2, b3, b4, b5⟩ := hw.row m2 hr2
            have hfz := hw.rowG m1 hr1 a1 rfl
            have hrr : r1 ≠ r2 := fun e => hne (bpEq_iff.2 (hw.inj bx by' _ _ r1 z1 z2 m1 m2 hr1 (by rw [e]; exact hr2)))
            refine ⟨.bool false, ?_, .bool false⟩
            rw [h3, Lib.run_overlaps_apart w tS tR e h1 size h2 ⟨r1, o1, none⟩ ⟨r2, o2, none⟩ lx k1 ly k2 hrr t1 t2 c1.size c2.size (by simp [World.shape?, a1]) (by simp [World.shape?, b1]) (by omega)
              (by simp only [World.frozen?, a1]; have := hfz o1; simp; omega) (by simp only [World.frozen?, a1]; have := hfz c1.size; simp; omega)]
            rfl
          · cases h
      · cases h
  · cases h

/- slices.Insert of one element into a slice of unknown capacity -/
noncomputable def smallM (b vb : Bp) (x y : Option Blk) (st : St) : St := ⟨(PT.nil.put b x).put vb y, st.next⟩
noncomputable def insOK (b vb : Bp) (n grow : Nat) (vblk : Option Blk) (st : St) (ra rb : OR) : OR :=
  match ra, rb with
  | .ok (.slice nb 0 n1 c1 g1) stA, .ok (.slice b2 0 n2 c2 g2) stB =>
    (match stA.mem.get nb, stB.mem.get b2 with
    | some (.cells R e true), some (.cells RB eB _) =>
      bsel (Bool.and (bpEq nb st.next) (Bool.and (Nat.beq n1 (Nat.succ n)) (Bool.and (Nat.beq g1 grow) (Bool.and (bpEq b2 b) (Bool.and (Nat.beq n2 (Nat.succ n)) (Bool.and (Nat.ble (Nat.succ n) c2) (Bool.and (Nat.beq g2 grow)
        (Bool.and (Nat.beq c1 (Nat.succ n)) (Bool.and (Nat.beq e eB) (Bool.and (bpEq stA.next st.next.succ) (Bool.and (bpEq stB.next st.next) (Bool.and (blkE (stA.mem.get vb) vblk) (Bool.and (blkE (stB.mem.get vb) vblk) (bpEq b2 b))))))))))))))
        (match RB.extract 0 (Nat.mul (Nat.succ n) grow) with
        | some R2 => bsel (segE R2 R) (.ok (.slice st.next 0 (Nat.succ n) (Nat.succ n) grow) ⟨(st.mem.put b none).put st.next (some (.cells R e true)), st.next.succ⟩) .bad
        | none => .bad) .bad
    | _, _ => .bad)
  | _, _ => .bad
noncomputable def insG (F : FunX) : FunX := fun call args st =>
  match args with
  | [.slice b 0 n cap (.succ grow), .int .i64 i, .slice vb voff m vc vg] =>
    bsel (Bool.and (Nat.beq cap n) (Bool.and (Bool.and (zlt i (.ofNat n)) (Nat.ble 1 n)) (Bool.and (Nat.beq m 1) (Bool.not (bpEq b vb)))))
      (forceN (Nat.succ grow) fun grow => forceN (Nat.succ n) fun n1 => PT.force (smallM b vb (st.mem.get b) (st.mem.get vb) st).mem fun sm => 
        insOK b vb n grow (st.mem.get vb) st (F call [.slice b 0 n n 0, .int .i64 i, .slice vb voff m vc vg] ⟨sm, st.next⟩) (F call [.slice b 0 n n1 grow, .int .i64 i, .slice vb voff m vc vg] ⟨sm, st.next⟩))
      (F call args st)
  | _ => F call args st

section
variable {P : Program} {f : Nat} {call : CallF} {st : St}
open Classical in
theorem PT.get_two (b vb q : Bp) (x y : Option Blk) : ((PT.nil.put b x).put vb y).get q = if q = vb then y else if q = b then x else none := by
  rw [PT.get_put, PT.get_put, PT.get_nil]
open Classical in
theorem insOK_sound {b vb : Bp} {n grow : Nat} {i : Int} {voff m vc vg : Nat} {ra rb : OR} (hb : b ≠ vb) (hn : 1 ≤ n) (hg : 1 ≤ grow)
    (hA : ∀ v s, ra = .ok v s → callable P f = true ∧ CallOK P f [.slice b 0 n n 0, .int .i64 i, .slice vb voff m vc vg] (smallM b vb (st.mem.get b) (st.mem.get vb) st) v s)
    (hB : ∀ v s, rb = .ok v s → callable P f = true ∧ CallOK P f [.slice b 0 n (n + 1) grow, .int .i64 i, .slice vb voff m vc vg] (smallM b vb (st.mem.get b) (st.mem.get vb) st) v s)
    {v : CV} {st' : St} (h : insOK b vb n grow (st.mem.get vb) st ra rb = .ok v st') : callable P f = true ∧ CallOK P f [.slice b 0 n n grow, .int .i64 i, .slice vb voff m vc vg] st v st' := by
  unfold insOK at h
  split at h
  · rename_i nb n1 c1 g1 stA b2 n2 c2 g2 stB
    split at h
    · rename_i R et RB eB gB mA mB
      simp only [bsel_eq, Bool.and_eq_true, bpEq_iff, Nat.beq_eq, Nat.ble_eq] at h
      split at h
      · rename_i hh
        obtain ⟨rfl, rfl, rfl, rfl, rfl, d6, rfl, rfl, rfl, d10, d11, d12, d13, _⟩ := hh
        have d12 := blkE_sound d12
        have d13 := blkE_sound d13
        split at h
        · rename_i R2 hR2
          split at h
          · rename_i hseg
            have := segE_sound hseg
            subst this
            cases h
            obtain ⟨ca, okA⟩ := hA _ _ rfl
            obtain ⟨_, okB⟩ := hB _ _ rfl
            refine ⟨ca, ?_⟩
            intro ρ w args' hw ha
            obtain ⟨s', t', e1, hs, ha2⟩ := ha.inv
            obtain ⟨r, sz, off', cap', rfl, hr, q1, q2, q3, q4⟩ := hs.slice_inv
            have ho : off' = 0 := q1 (by omega)
            subst ho
            obtain ⟨q5, _⟩ := q4 (by omega)
            have hsm : ∀ q, (smallM b2 vb (st.mem.get b2) (st.mem.get vb) st).mem.get q = if q = vb then st.mem.get vb else if q = b2 then st.mem.get b2 else none := fun q => PT.get_two b2 vb q _ _
            have hsub : ∀ q x, ρ q = some x → (smallM b2 vb (st.mem.get b2) (st.mem.get vb) st).mem.get q = st.mem.get q ∨ (smallM b2 vb (st.mem.get b2) (st.mem.get vb) st).mem.get q = none := fun q x _ => by
              rw [hsm]
              by_cases e1 : q = vb
              · subst e1; rw [if_pos rfl]; exact .inl rfl
              · rw [if_neg e1]
                by_cases e2 : q = b2
                · subst e2; rw [if_pos rfl]; exact .inl rfl
                · rw [if_neg e2]; exact .inr rfl
            have hws : WR ρ (smallM b2 vb (st.mem.get b2) (st.mem.get vb) st) w := hw.sub hsub rfl
            have hbn : b2 ≠ st.next := fun e => by have := hw.fresh b2 _ hr; rw [e] at this; omega
            by_cases hcap : cap' = n
            · -- no room
              subst hcap
              have hs' : VR ρ (.slice b2 0 cap' cap' 0) (.slice (some ⟨r, 0, none⟩) cap' cap') := .slice _ _ _ _ r sz hr
              refine (okA ρ w args' hws (by rw [e1]; exact VRs.cons hs' ha2)).mono ?_
              rintro ee w' ⟨v', ρ', rfl, hv, hAf⟩
              refine ⟨v', ρ', rfl, hv, ?_⟩
              have hfr : After ρ st w ρ' ⟨(st.mem.put b2 (stA.mem.get b2)).put st.next (some (.cells R2 et true)), st.next.succ⟩ w' := by
                refine After.frame (s := smallM b2 vb (st.mem.get b2) (st.mem.get vb) st) hw rfl hsub hAf d10.symm fun q x hx => ?_
                show ((st.mem.put b2 (stA.mem.get b2)).put st.next _).get q = _ ∨ _
                rw [PT.get_put, PT.get_put]
                by_cases f1 : q = st.next
                · subst f1; rw [if_pos rfl]; exact .inl mA.symm
                · rw [if_neg f1]
                  by_cases f2 : q = b2
                  · subst f2; rw [if_pos rfl]; exact .inl rfl
                  · rw [if_neg f2]
                    by_cases f3 : q = vb
                    · subst f3; exact .inl d12.symm
                    · right
                      refine ⟨?_, by rw [hsm, if_neg f3, if_neg f2], ?_⟩
                      · cases hq : ρ q with
                        | some y => exact ⟨y, rfl⟩
                        | none =>
                          have hlt := hAf.wr.fresh q x hx
                          rw [d10, Bp.dec_succ] at hlt
                          have : q.dec ≠ st.next.dec := fun e => f1 (Bp.dec_inj _ _ e)
                          have := hAf.dom q (by show q.dec < st.next.dec; omega) hq
                          rw [this] at hx; cases hx
                      · rfl
              refine (hfr.trans (After.drop hfr.wr b2)).silent (fun q x hx => ?_) rfl
              show ((st.mem.put b2 none).put st.next _).get q = (((st.mem.put b2 (stA.mem.get b2)).put st.next _).put b2 none).get q
              rw [PT.get_put, PT.get_put, PT.get_put, PT.get_put, PT.get_put]
              by_cases f1 : q = st.next
              · subst f1
                rw [if_pos rfl, if_pos rfl, if_neg (fun e => hbn e.symm)]
              · rw [if_neg f1, if_neg f1]
                by_cases f2 : q = b2
                · rw [if_pos f2, if_pos f2]
                · rw [if_neg f2, if_neg f2, if_neg f2]
            · -- there is room
              have hs' : VR ρ (.slice b2 0 n (n + 1) g2) (.slice (some ⟨r, 0, none⟩) n cap') := .sliceG _ _ 0 _ _ cap' g2 r sz hr (by omega) (by omega) (by omega) (fun _ => rfl) (by simpa using q5)
              refine (okB ρ w args' hws (by rw [e1]; exact VRs.cons hs' ha2)).mono ?_
              rintro ee w' ⟨v', ρ', rfl, hv, hAf⟩
              have hr' := hAf.ext _ _ hr
              obtain ⟨r2, sz2, off2, cap2, rfl, hr2, p1, p2, p3, p4⟩ := hv.slice_inv
              rw [hr'] at hr2; cases hr2
              have ho2 : off2 = 0 := p1 (by omega)
              subst ho2
              obtain ⟨p5, _⟩ := p4 (by omega)
              have hfr : After ρ st w ρ' ⟨st.mem.put b2 (stB.mem.get b2), st.next⟩ w' := by
                refine After.frame (s := smallM b2 vb (st.mem.get b2) (st.mem.get vb) st) hw rfl hsub hAf d11.symm fun q x hx => ?_
                show (st.mem.put b2 (stB.mem.get b2)).get q = _ ∨ _
                rw [PT.get_put]
                by_cases f2 : q = b2
                · subst f2; rw [if_pos rfl]; exact .inl rfl
                · rw [if_neg f2]
                  by_cases f3 : q = vb
                  · subst f3; exact .inl d13.symm
                  · right
                    refine ⟨?_, by rw [hsm, if_neg f3, if_neg f2], ?_⟩
                    · cases hq : ρ q with
                      | some y => exact ⟨y, rfl⟩
                      | none =>
                        have hlt := hAf.wr.fresh q x hx
                        rw [d11] at hlt
                        have := hAf.dom q (by show q.dec < st.next.dec; exact hlt) hq
                        rw [this] at hx; cases hx
                    · rfl
              have hmB : (St.mk (st.mem.put b2 (stB.mem.get b2)) st.next).mem.get b2 = some (.cells RB et gB) := by
                show (st.mem.put b2 (stB.mem.get b2)).get b2 = _
                rw [PT.get_put_same, mB]
              obtain ⟨o, ho1, ho2⟩ := hfr.wr.at' b2 _ r sz hmB hr'
              have hle : ρ'.le (ρ'.set st.next (r, sz)) := fun q x hx => by
                have := hfr.wr.fresh q x hx
                rw [Ren.set_ne _ _ _ _ (fun e => by rw [e] at this; exact absurd this (Nat.lt_irrefl _))]; exact hx
              have hbr : BR (ρ'.set st.next (r, sz)) (.cells R2 et true) o sz := by
                refine BR.mono hle ?_
                cases ho2 with
                | cells _ _ _ c lo hi hlen hc hf hgg =>
                  obtain ⟨x1, x2⟩ := Segs.extract_some hR2
                  have x3 : row R2 = (row RB).take ((n + 1) * g2) := by have := x2 byteV; rw [List.drop_zero] at this; exact this
                  have hsz : R2.size = (n + 1) * g2 := by
                    rw [← row_length, x3, List.length_take, row_length]
                    have : 0 + (n + 1) * g2 ≤ RB.size := x1
                    omega
                  have x1' : (n + 1) * g2 ≤ RB.size := by have : 0 + (n + 1) * g2 ≤ RB.size := x1; omega
                  refine .cells R2 et true c lo hi (by omega) ?_ hf (fun hh => by cases hh)
                  rw [x3, hsz]
                  have := hc.take ((n + 1) * g2)
                  rw [List.take_take, Nat.min_eq_left x1'] at this
                  exact this
              have hmv := After.move hfr.wr hmB hr' ho1 hbr (fun _ _ => rfl) rfl rfl rfl
              refine ⟨_, ρ'.set st.next (r, sz), rfl, ?_, (hfr.trans hmv).silent (fun q x hx => ?_) rfl⟩
              · exact .sliceG _ _ 0 _ _ cap2 g2 r sz (Ren.set_same _ _ _) (by omega) (Nat.le_refl _) (by have : n + 1 ≤ c2 := d6; show n + 1 ≤ cap2; omega) (fun _ => rfl) (by simpa using p5)
              · show ((st.mem.put b2 none).put st.next _).get q = (((st.mem.put b2 (stB.mem.get b2)).put b2 none).put st.next _).get q
                rw [PT.get_put, PT.get_put, PT.get_put, PT.get_put, PT.get_put]
                by_cases f1 : q = st.next
                · rw [if_pos f1, if_pos f1]
                · rw [if_neg f1, if_neg f1]
                  by_cases f2 : q = b2
                  · rw [if_pos f2, if_pos f2]
                  · rw [if_neg f2, if_neg f2, if_neg f2]
          · cases h
        · cases h
      · cases h
    · cases h
  · cases h
theorem insG_sound {F : FunX} (hm : P.follows .mixedOrders = true) (hF : funXK P f = some F) (hc : CallSound P call) (args : List CV) (st : St) (v : CV) (st' : St) (h : insG F call args st = .ok v st') : CallOut P f args st v st' := by
  have plain : ∀ args st v st', F call args st = .ok v st' → callable P f = true ∧ CallOK P f args st v st' := fun args st v st' h => by
    rcases funXK_ok hF call args st with h1 | h1
    · rw [h1] at h; cases h
    · rw [h1] at h
      exact enterC_sound hc (runDraw2_sound hm) h
  left
  unfold insG at h
  split at h
  · rename_i b n cap grow i vb voff m vc vg
    rw [bsel_eq] at h
    split at h
    · rename_i hh
      simp only [Bool.and_eq_true, Nat.beq_eq, Nat.ble_eq, Bool.not_eq_true'] at hh
      obtain ⟨rfl, ⟨_, h2⟩, rfl, h4⟩ := hh
      simp only [forceN_eq, PT.force_eq] at h
      have hbv : b ≠ vb := fun e => by rw [bpEq_iff.2 e] at h4; cases h4
      exact insOK_sound hbv h2 (Nat.succ_le_succ (Nat.zero_le _)) (fun v s hv => plain _ _ v s hv) (fun v s hv => plain _ _ v s hv) h
    · exact plain _ _ _ _ h
  · exact plain _ _ _ _ h
end
end Sim
