import Derived.Test.YtpinmfjiiapgfaaGreatDoorMem
import Derived.Test.YtpinmfjiiapgfaaGreatDoorSimE
/- rlog.Members as an intrinsic. -/
namespace Sim
open Go Go.Proofs
set_option linter.unusedVariables false
noncomputable def sliceB (v : CV) : Bool := match v with | .nilslice => true | .slice _ _ _ _ _ => true | _ => false
noncomputable def entB (s : Segs CV) (o : Nat) : Bool := match s.get byteV o, s.get byteV (Nat.add o 1), s.get byteV (Nat.add o 2), s.get byteV (Nat.add o 3) with
  | some (.int .i64 _), some (.int .u8 (.ofNat k)), some (.str _ _), some l => Bool.and (Bool.not (Nat.beq k 3)) (sliceB l)
  | _, _, _, _ => false
noncomputable def entsB (s : Segs CV) (off len : Nat) : Bool := Nat.rec (motive := fun _ => Bool) true (fun j ih => Bool.and ih (entB s (Nat.add off (Nat.mul j 4)))) len
noncomputable def noneR (st : St) : OR := .ok (.tuple (.one .nilslice (.one (.bool false) .nil))) st
noncomputable def memG : FunX := fun _ args st => match args with
  | [.ptr lb 0, .int .i64 i] => (match st.mem.get lb with
    | some (.cells s _ _) => (match s.get byteV 2 with
      | some .nilslice => noneR st
      | some (.slice eb off len cap grow) => (match st.mem.get eb with
        | some (.cells s2 _ _) => bsel (Bool.and (Nat.ble len 1000000000) (entsB s2 off len)) (noneR st) .bad
        | _ => .bad)
      | _ => .bad)
    | _ => .bad)
  | _ => .bad
theorem entsB_iff {s : Segs CV} {off : Nat} : ∀ {len : Nat}, entsB s off len = true → ∀ j, j < len → entB s (off + j * 4) = true := by
  intro len
  induction len with
  | zero => intro _ j h; omega
  | succ k ih =>
    intro h j hj
    have h : Bool.and (entsB s off k) (entB s (Nat.add off (Nat.mul k 4))) = true := h
    rw [Bool.and_eq_true] at h
    rcases Nat.lt_or_ge j k with hl | hg
    · exact ih h.1 j hl
    · have : j = k := by omega
      subst this; exact h.2
theorem cell_of_take {w : World} {r : Nat} {c : Array Value} {t : TypeId} {lo hi n i : Nat} {v : Value} (h : w.heap[r]? = some (.cells c t (lo, hi))) (hv : (c.toList.take n)[i]? = some v) : w.cell? ⟨r, i, none⟩ = some v := by
  rw [List.getElem?_take] at hv
  split at hv
  · simp only [World.cell?, h]; simpa using hv
  · cases hv
theorem entB_sound {ρ : Ren} {s : Segs CV} {o r : Nat} {w : World} {c : Array Value} {t : TypeId} {lo hi : Nat} (h : entB s o = true) (ha : w.heap[r]? = some (.cells c t (lo, hi))) (hs : VRs ρ (row s) (c.toList.take s.size)) :
    ∃ e : Mem.Ent, e.k ≠ 3 ∧ w.cell? ⟨r, o, none⟩ = some (.int .i64 e.t) ∧ w.cell? ⟨r, o + 1, none⟩ = some (.int .u8 e.k) ∧ w.cell? ⟨r, o + 2, none⟩ = some (.string e.s) ∧ w.cell? ⟨r, o + 3, none⟩ = some (.slice e.p e.n e.c) := by
  unfold entB at h
  split at h
  · rename_i x0 k x1 x2 l h0 h1 h2 h3
    rw [Bool.and_eq_true] at h
    obtain ⟨v0, a0, b0⟩ := row_get hs h0
    obtain ⟨v1, a1, b1⟩ := row_get hs h1
    obtain ⟨v2, a2, b2⟩ := row_get hs h2
    obtain ⟨v3, a3, b3⟩ := row_get hs h3
    cases b0; cases b1; cases b2
    have hk : ((k : Nat) : Int) ≠ 3 := by
      have := h.1
      intro e
      have e2 : k = 3 := by omega
      subst e2
      simp at this
    have hl : ∃ p n cc, v3 = .slice p n cc := by
      have hb := h.2
      cases b3 <;> first | (cases hb; done) | exact ⟨_, _, _, rfl⟩
    obtain ⟨p, n, cc, rfl⟩ := hl
    exact ⟨⟨x0, k, _, p, n, cc⟩, hk, cell_of_take ha a0, cell_of_take ha a1, cell_of_take ha a2, cell_of_take ha a3⟩
  · cases h
theorem noneR_VR {ρ : Ren} : VR ρ (.tuple (.one .nilslice (.one (.bool false) .nil))) (.tuple #[.slice none 0 0, .bool false]) :=
  VR.tuple' (VRs.two .nilslice (.bool false))
theorem memG_sound (call : CallF) (args : List CV) (st : St) (v : CV) (st' : St) (h : memG call args st = .ok v st') : CallOut Tryz.prog 120 args st v st' := by
  unfold memG at h
  split at h
  · rename_i lb i
    split at h
    · rename_i s ty g hlb
      have key : ∀ (hh : noneR st = .ok v st'), (∀ ρ w r sz, WR ρ st w → ρ lb = some (r, sz) → ∃ p cap es, es.length ≤ 1000000000 ∧ (∀ e ∈ es, Mem.Ent.k e ≠ 3) ∧ w.cell? ⟨r, 2, none⟩ = some (.slice p es.length cap) ∧
          (es.length = 0 ∨ ∃ g off, p = some ⟨g, off, none⟩ ∧ g < w.heap.size ∧ Mem.Ents w g off es)) → CallOut Tryz.prog 120 [.ptr lb 0, .int .i64 i] st v st' := by
        intro hh hk
        cases hh
        refine .inl ⟨by kernel_rfl, fun ρ w args' hw ha => ?_⟩
        obtain ⟨x1, t1, e1, hx1, ha1⟩ := ha.inv
        obtain ⟨x2, t2, e2, hx2, ha2⟩ := ha1.inv
        have e4 : t2 = [] := by have := ha2.len; simpa using this.symm
        subst e4; subst e2
        have e5 : args' = #[x1, x2] := by rw [← Array.toArray_toList (xs := args'), e1]
        subst e5
        cases hx2
        cases hx1 with
        | ptr _ _ r sz hr =>
          obtain ⟨p, cap, es, k1, k2, k3, k4⟩ := hk ρ w r sz hw hr
          refine (callsIn_wide.1 (Mem.Members_in r i p cap es k1 k2 w k3 k4)).mono ?_
          rintro e w' ⟨rfl, hbl⟩
          exact ⟨_, ρ, rfl, noneR_VR, After.below hw hbl⟩
      split at h
      · rename_i h2
        refine key h fun ρ w r sz hw hr => ?_
        obtain ⟨c, lo, hi, a1, a2, a3, a4, a5⟩ := hw.row hlb hr
        obtain ⟨v2, b1, b2⟩ := row_get a4 h2
        cases b2
        exact ⟨none, 0, [], by simp, by simp, cell_of_take a1 b1, .inl rfl⟩
      · rename_i eb off len cap grow h2
        split at h
        · rename_i s2 ty2 g2 heb
          rw [bsel_eq] at h
          split at h
          · rename_i hh
            rw [Bool.and_eq_true, Nat.ble_eq] at hh
            refine key h fun ρ w r sz hw hr => ?_
            obtain ⟨c, lo, hi, a1, a2, a3, a4, a5⟩ := hw.row hlb hr
            obtain ⟨v2, b1, b2⟩ := row_get a4 h2
            obtain ⟨r2, sz2, off', cap', hv2, hr2, ho⟩ : ∃ r2 sz2 off' cap', v2 = .slice (some ⟨r2, off', none⟩) len cap' ∧ ρ eb = some (r2, sz2) ∧ (len = 0 ∨ off' = off) := by
              cases b2 with
              | slice _ _ _ _ r2 sz2 h => exact ⟨_, _, _, _, rfl, h, .inr rfl⟩
              | sliceG _ _ off' _ _ cap' _ r2 sz2 h hg hl hc ho hs => exact ⟨_, _, _, _, rfl, h, by
                  rcases Nat.eq_zero_or_pos len with h0 | h0
                  · exact .inl h0
                  · exact .inr (ho (by omega))⟩
            subst hv2
            obtain ⟨c2, lo2, hi2, d1, d2, d3, d4, d5⟩ := hw.row heb hr2
            have hex : ∀ j, j < len → ∃ e : Mem.Ent, e.k ≠ 3 ∧ w.cell? ⟨r2, off + j * 4, none⟩ = some (.int .i64 e.t) ∧ w.cell? ⟨r2, off + j * 4 + 1, none⟩ = some (.int .u8 e.k) ∧ w.cell? ⟨r2, off + j * 4 + 2, none⟩ = some (.string e.s) ∧ w.cell? ⟨r2, off + j * 4 + 3, none⟩ = some (.slice e.p e.n e.c) :=
              fun j hj => entB_sound (entsB_iff hh.2 j hj) d1 d4
            have hf : ∃ f : Nat → Mem.Ent, ∀ j, j < len → (f j).k ≠ 3 ∧ w.cell? ⟨r2, off + j * 4, none⟩ = some (.int .i64 (f j).t) ∧ w.cell? ⟨r2, off + j * 4 + 1, none⟩ = some (.int .u8 (f j).k) ∧ w.cell? ⟨r2, off + j * 4 + 2, none⟩ = some (.string (f j).s) ∧ w.cell? ⟨r2, off + j * 4 + 3, none⟩ = some (.slice (f j).p (f j).n (f j).c) := by
              refine ⟨fun j => if hj : j < len then Classical.choose (hex j hj) else ⟨0, 0, .empty, none, 0, 0⟩, fun j hj => ?_⟩
              simp only [hj, dif_pos]
              exact Classical.choose_spec (hex j hj)
            obtain ⟨f, hf⟩ := hf
            have hlen : ((List.range len).map f).length = len := by simp
            refine ⟨some ⟨r2, off', none⟩, cap', (List.range len).map f, by rw [hlen]; exact hh.1, ?_, by rw [hlen]; exact cell_of_take a1 b1, ?_⟩
            · intro e he
              obtain ⟨j, hj, rfl⟩ := List.mem_map.1 he
              exact (hf j (List.mem_range.1 hj)).1
            · rcases ho with h0 | rfl
              · exact .inl (by rw [hlen]; exact h0)
              · refine .inr ⟨r2, _, rfl, (Array.getElem?_eq_some_iff.1 d1).1, fun j hj => ?_⟩
                have e1 : ((List.range len).map f)[j] = f j := by simp
                rw [e1]
                exact (hf j (by rw [hlen] at hj; exact hj)).2
          · cases h
        · cases h
      · cases h
    · cases h
  · cases h
end Sim
