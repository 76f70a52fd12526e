/- The reference's Says. -/
import Derived.Test.YtihkopdamgboiaaQ
import Derived.Test.YtihkopdamgboiaaL
namespace Go.Proofs.Ytihkopdamgboiaa
open Go.RowKit Go.Shelf
set_option linter.unusedVariables false
attribute [local go_sem] Oper.semAt_some

theorem hasB_take (ds : List Int) (v : Int) (q : Nat) (hq : q < ds.length) : hasB (ds.take (q + 1)) v = (hasB (ds.take q) v || (ds[q] == v)) := by
  unfold hasB
  rw [List.take_succ_eq_append_getElem hq]
  rw [Bool.eq_iff_iff]
  simp only [List.mem_append, List.mem_singleton, decide_eq_true_eq, Bool.or_eq_true, beq_iff_eq]
  constructor
  · rintro (h | h)
    · exact .inl h
    · exact .inr h.symm
  · rintro (h | h)
    · exact .inl h
    · exact .inr h.symm

theorem rsays_neg (p a : Option Addr) (len cap : Nat) (now : Int) (hn : now < 0) (w : World) :
    Calls Try.prog 18 #[.pointer p, .slice a len cap, .int .i64 now] w fun e w' => e = .returned (.slice none 0 0) ∧ Below w.heap.size w w' := by
  go_enter Try.func18, Try.ntmps18
  go_wp2
  go_ret
  exact ⟨rfl, Below.refl _ _⟩

/-- The cells of a slice of numbers, where there are any. -/
theorem ints_form {n₀ : Nat} {W : World} {a : Option Addr} {len cap : Nat} {ds : List Int} (h : Ints n₀ W (.slice a len cap) ds) :
    ds.length = len ∧ ∀ q (hq : q < ds.length), ∃ b off, a = some ⟨b, off, none⟩ ∧ b < n₀ ∧ W.cell? ⟨b, off + q, none⟩ = some (.int .i64 ds[q]) := by
  rcases h with ⟨e, rfl⟩ | ⟨b, off, cap', e, hb, hc⟩ | ⟨ad, cap', e, rfl⟩
  · cases e; exact ⟨rfl, fun q hq => by simp at hq⟩
  · cases e; exact ⟨rfl, fun q hq => ⟨b, off, rfl, hb, by rw [hc q hq]; simp [hq]⟩⟩
  · cases e; exact ⟨rfl, fun q hq => by simp at hq⟩

set_option maxRecDepth 100000 in
set_option maxHeartbeats 2000000 in
theorem rsays_in {W : World} {b h c : Nat} {pat : Int} {zs : List Int} (hw : IsRef W b h c pat zs) (now : Int) (ds : List Int) (a : Option Addr) (len cap : Nat) (hlen : len ≤ 9223372036854775807) (hp1 : 1 ≤ pat) (hp2 : pat ≤ 100000) (hn0 : 0 ≤ now) (hn1 : now ≤ 9223372036854775807)
    (hsv : Ints W.heap.size W (.slice a len cap) ds) :
    Calls Try.prog 18 #[.pointer (some ⟨b, 0, none⟩), .slice a len cap, .int .i64 now] W fun e w' => ∃ v, e = .returned v ∧ OwnCmds W.heap.size w' v (says pat now zs ds) ∧ (v = .slice none 0 0 ↔ says pat now zs ds = []) ∧ Below W.heap.size W w' := by
  have hfew := hw.few
  have hone := hw.one
  have hs0 := hw.sizes
  obtain ⟨hdl, hds⟩ := ints_form hsv
  have hds' := Lib.hid hds
  have hdl' := Lib.hid hdl
  have hw' := Lib.hid hw
  clear hds hdl hw hsv
  go_enter Try.func18, Try.ntmps18
  go_wp2_with fail
  go_loopw [7, 8] (fun ov sv wr => ∃ (k : Nat), k ≤ zs.length ∧ sv = .int .i64 ((k : Int) + 1) ∧ Hid (OwnCmds W.heap.size wr ov (cmds ds (upto (item pat now zs) k))) ∧ Hid (ov = .slice none 0 0 ↔ cmds ds (upto (item pat now zs) k) = []) ∧ Hid (Below W.heap.size W wr)) (fun _ sv _ => zs.length + 1 - (intOf sv).toNat)
  case atStart => exact ⟨0, Nat.zero_le _, rfl, owncmds_nil, by show _ ↔ _; simp [upto, cmds], Below.refl _ _⟩
  case round =>
    obtain ⟨k, hk, rfl, hov, hnil, hB⟩ := hrel
    have hwr := hw'.out.below hs0.1 hs0.2 hB.out
    have f1 := hwr.sl
    have hwz := hB.out.size
    by_cases hlt : k < zs.length
    · have hwr' := Lib.hid hwr
      clear hwr
      have hit : item pat now zs k = ((k : Int) + 1, decide (zs[k] ≤ now - pat)) := by simp [item, hlt]
      have hsil : silentA pat now zs ((k : Int) + 1) = decide (zs[k] ≤ now - pat) := by
        have e : ((k : Int) + 1 - 1).toNat = k := by omega
        have d0 : decide (0 ≤ now) = true := by simpa using hn0
        simp only [silentA, silentB, e, d0, Bool.true_and]
        rw [decide_eq_decide]
        simp [hlt]; omega
      obtain ⟨sil, hsile⟩ : ∃ sil, decide (zs[k] ≤ now - pat) = sil := ⟨_, rfl⟩
      rw [hsile] at hit hsil
      clear hsile
      have hsn : Hid (cmds ds (upto (item pat now zs) (k + 1)) = cmds ds (upto (item pat now zs) k) ++ cmd ds ((k : Int) + 1, sil)) := by
        show _ = _
        rw [upto_succ, cmds_snoc, hit]
      have hlc : Hid ((cmds ds (upto (item pat now zs) k)).length ≤ 100000) := by
        have := cmds_len ds (upto (item pat now zs) k)
        rw [upto_length] at this
        show _ ≤ 100000
        omega
      have hsil' := Lib.hid hsil
      clear hit hsil
      generalize cmds ds (upto (item pat now zs) k) = C at hov hnil hsn hlc ⊢
      go_wp2_with fail
      obtain ⟨wo, rfl⟩ : ∃ wo : World, wo = wr := ⟨_, rfl⟩
      go_loop [9, 10] (fun dv iv => ∃ (q : Nat), q ≤ len ∧ iv = .int .i64 q ∧ dv = .bool (hasB (ds.take q) ((k : Int) + 1))) (fun _ iv => len - (intOf iv).toNat)
      case atStart => exact ⟨0, Nat.zero_le _, rfl, by simp [hasB]⟩
      case round =>
        obtain ⟨q, hq, rfl, rfl⟩ := hrel
        have hll := hdl'.out
        by_cases hql : q < len
        · obtain ⟨b', off, rfl, hb', hcq⟩ := hds'.out q (by omega)
          have hcq' := (hB.out.cell (p := ⟨b', off + q, none⟩) hb').trans hcq
          have htk := Lib.hid (hasB_take ds ((k : Int) + 1) q (by omega))
          obtain ⟨x, hx⟩ : ∃ x, ds[q] = x := ⟨_, rfl⟩
          rw [hx] at hcq' htk
          clear hcq hx
          obtain ⟨dn, hdn⟩ : ∃ dn, hasB (ds.take q) ((k : Int) + 1) = dn := ⟨_, rfl⟩
          rw [hdn] at htk ⊢
          clear hdn hll
          cases dn
          · by_cases hx : x = (k : Int) + 1
            · have hxb : (x == (k : Int) + 1) = true := by simpa using hx
              have hx' := Lib.hid hx
              clear hx
              go_wp2
              go_round
              case rel => exact ⟨q + 1, by omega, by go_num, by rw [htk.out]; simp [hxb]⟩
              case measure => simp [intOf]; omega
            · have hxb : (x == (k : Int) + 1) = false := by simpa using hx
              have hx' := Lib.hid hx
              clear hx
              go_wp2
              go_round
              case rel => exact ⟨q + 1, by omega, by go_num, by rw [htk.out]; simp [hxb]⟩
              case measure => simp [intOf]; omega
          · go_wp2
            go_round
            case rel => exact ⟨q + 1, by omega, by go_num, by rw [htk.out]; simp⟩
            case measure => simp [intOf]; omega
        · obtain rfl : q = len := by omega
          rw [show ds.take q = ds from by rw [← hll]; exact List.take_length]
          obtain ⟨dn, hdn⟩ : ∃ dn, hasB ds ((k : Int) + 1) = dn := ⟨_, rfl⟩
          have hcm : cmd ds ((k : Int) + 1, sil) = bif sil then (bif dn then [] else [(5, (k : Int) + 1)]) else (bif dn then [(6, (k : Int) + 1)] else []) := by simp only [cmd, hdn]
          rw [hdn]
          have hfin := Lib.hid (hsn.out.trans (by rw [hcm]))
          clear hcm hdn hll
          have hwz2 := hwr'.out.sizes
          have hsl := Lib.hid (rsilent_any hwr'.out ((k : Int) + 1) now hp1 hp2 hn1)
          rw [hsil'.out] at hsl
          have hnx : ∀ w1 : World, Below W.heap.size W w1 → Calls Try.prog 16 #[.pointer (some ⟨b, 0, none⟩), .int .i64 ((k : Int) + 1), .int .i64 now] w1 fun e w' => e = .returned (.bool sil) ∧ Below w1.heap.size w1 w' := fun w1 hB1 => by
            have := rsilent_any (hw'.out.below hs0.1 hs0.2 hB1) ((k : Int) + 1) now hp1 hp2 hn1
            rw [hsil'.out] at this
            exact this
          have hnx' := Lib.hid hnx
          clear hnx
          cases sil <;> cases dn
          · go_wp2_with fail
            refine hsl.out.mono ?_
            rintro e w2 ⟨rfl, hB2⟩
            have hB2' := Lib.hid hB2
            have hz2 := hB2.size
            clear hB2
            go_wp2_with fail
            refine (hnx'.out w2 (hB.out.trans (hB2'.out.mono hwz))).mono ?_
            rintro e w3 ⟨rfl, hB3⟩
            have hB3' := Lib.hid hB3
            have hz3 := hB3.size
            clear hB3
            go_wp2
            go_roundw
            case rel => exact ⟨k + 1, by omega, by go_num, by rw [hfin.out]; show OwnCmds _ _ _ _; simpa using owncmds_below (owncmds_below hov.out hB2'.out (Nat.le_refl _)) hB3'.out (Nat.le_refl _), by rw [hfin.out]; show _ ↔ _; simpa using hnil.out, (hB.out.trans (hB2'.out.mono hwz)).trans (hB3'.out.mono (by omega))⟩
            case measure => simp [intOf]; omega
          · go_wp2_with fail
            refine hsl.out.mono ?_
            rintro e w2 ⟨rfl, hB2⟩
            have hB2' := Lib.hid hB2
            have hz2 := hB2.size
            clear hB2
            go_wp2_with fail
            refine (hnx'.out w2 (hB.out.trans (hB2'.out.mono hwz))).mono ?_
            rintro e w3 ⟨rfl, hB3⟩
            have hB3' := Lib.hid hB3
            have hz3 := hB3.size
            clear hB3
            have ho3 := Lib.hid (owncmds_below (owncmds_below hov.out hB2'.out (Nat.le_refl _)) hB3'.out (Nat.le_refl _))
            have hz4 : W.heap.size ≤ w3.heap.size := by omega
            go_wp2_with (at_builtin; go_loud (refine wpList_append_cmd rfl (.tmp 58) (.tmp 61) rfl rfl ho3.out (6, (k : Int) + 1) rfl hlc.out hz4 ?_); intro v4 w4 hown4 hB4 hne4; have hown4' := Lib.hid hown4; have hB4' := Lib.hid hB4; have hne4' := Lib.hid hne4; clear hown4 hB4 hne4)
            go_roundw
            case rel => exact ⟨k + 1, by omega, by go_num, by rw [hfin.out]; exact hown4'.out, by rw [hfin.out]; show _ ↔ _; simp [hne4'.out], ((hB.out.trans (hB2'.out.mono hwz)).trans (hB3'.out.mono (by omega))).trans hB4'.out⟩
            case measure => simp [intOf]; omega
          · go_wp2_with fail
            refine hsl.out.mono ?_
            rintro e w2 ⟨rfl, hB2⟩
            have hB2' := Lib.hid hB2
            have hz2 := hB2.size
            clear hB2
            have ho3 := Lib.hid (owncmds_below hov.out hB2'.out (Nat.le_refl _))
            have hz4 : W.heap.size ≤ w2.heap.size := by omega
            go_wp2_with (first | (at_builtin; go_loud (refine wpList_append_cmd rfl (.tmp 45) (.tmp 48) rfl rfl ho3.out (5, (k : Int) + 1) rfl hlc.out hz4 ?_); intro v4 w4 hown4 hB4 hne4; have hown4' := Lib.hid hown4; have hB4' := Lib.hid hB4; have hne4' := Lib.hid hne4; clear hown4 hB4 hne4) | fail)
            have hB24 := Lib.hid ((hB.out.trans (hB2'.out.mono hwz)).trans hB4'.out)
            refine (hnx'.out w4 hB24.out).mono ?_
            rintro e w5 ⟨rfl, hB5⟩
            have hz5 := hB24.out.size
            have hB5' := Lib.hid hB5
            clear hB5
            go_wp2
            go_roundw
            case rel => exact ⟨k + 1, by omega, by go_num, by rw [hfin.out]; exact owncmds_below hown4'.out hB5'.out (Nat.le_refl _), by rw [hfin.out]; show _ ↔ _; simp [hne4'.out], hB24.out.trans (hB5'.out.mono hz5)⟩
            case measure => simp [intOf]; omega
          · go_wp2_with fail
            refine hsl.out.mono ?_
            rintro e w2 ⟨rfl, hB2⟩
            have hB2' := Lib.hid hB2
            have hz2 := hB2.size
            clear hB2
            go_wp2_with fail
            refine (hnx'.out w2 (hB.out.trans (hB2'.out.mono hwz))).mono ?_
            rintro e w3 ⟨rfl, hB3⟩
            have hB3' := Lib.hid hB3
            have hz3 := hB3.size
            clear hB3
            go_wp2
            go_roundw
            case rel => exact ⟨k + 1, by omega, by go_num, by rw [hfin.out]; show OwnCmds _ _ _ _; simpa using owncmds_below (owncmds_below hov.out hB2'.out (Nat.le_refl _)) hB3'.out (Nat.le_refl _), by rw [hfin.out]; show _ ↔ _; simpa using hnil.out, (hB.out.trans (hB2'.out.mono hwz)).trans (hB3'.out.mono (by omega))⟩
            case measure => simp [intOf]; omega
    · obtain rfl : k = zs.length := by omega
      clear hwr
      go_wp2
      go_ret
      exact ⟨_, rfl, hov.out, hnil.out, hB.out⟩

/-- Each command's cells, where there are any. -/
def CmdsAt (W : World) (a : Option Addr) (l : List (Int × Int)) : Prop :=
  ∀ j (hj : j < l.length), ∃ g, a = some ⟨g, 0, none⟩ ∧ g < W.heap.size ∧ W.cell? ⟨g, j * 4, none⟩ = some (.int .u8 l[j].1) ∧ W.cell? ⟨g, j * 4 + 1, none⟩ = some (.int .i64 0) ∧
    W.cell? ⟨g, j * 4 + 2, none⟩ = some (.int .i64 l[j].2) ∧ W.cell? ⟨g, j * 4 + 3, none⟩ = some (.int .i64 0)
theorem cmdSl_at {n₀ : Nat} {W : World} {v : Value} {r : List (Int × Int)} (h : CmdSl n₀ W v r) : ∃ a c, v = .slice a r.length c ∧ CmdsAt W a r ∧ ∀ j (hj : j < r.length), ∃ g, a = some ⟨g, 0, none⟩ ∧ n₀ ≤ g ∧ ∀ i, W.frozen? ⟨g, i, none⟩ = false := by
  rcases h with ⟨rfl, rfl⟩ | ⟨_, g, cap, rfl, h1, h2, h3, h4⟩
  · exact ⟨none, 0, rfl, fun j hj => by simp at hj, fun j hj => by simp at hj⟩
  · refine ⟨_, cap, rfl, fun j hj => ?_, fun j hj => ⟨g, rfl, h1, h4⟩⟩
    obtain ⟨c0, c1, c2, c3⟩ := ccells_get r j hj
    exact ⟨g, rfl, h2, h3 _ _ c0, h3 _ _ c1, h3 _ _ c2, h3 _ _ c3⟩
theorem CmdsAt.below {W W' : World} {a : Option Addr} {l : List (Int × Int)} (h : CmdsAt W a l) {B : Nat} (hB : Below B W W') (hs : W.heap.size ≤ B) : CmdsAt W' a l := fun j hj => by
  obtain ⟨g, e, h1, h2, h3, h4, h5⟩ := h j hj
  have := hB.size
  exact ⟨g, e, by omega, (hB.cell (p := ⟨g, j * 4, none⟩) (by simp; omega)).trans h2, (hB.cell (p := ⟨g, j * 4 + 1, none⟩) (by simp; omega)).trans h3, (hB.cell (p := ⟨g, j * 4 + 2, none⟩) (by simp; omega)).trans h4, (hB.cell (p := ⟨g, j * 4 + 3, none⟩) (by simp; omega)).trans h5⟩

set_option maxHeartbeats 1000000 in
/-- commands: the same ones. -/
theorem commands_same {W : World} {a a' : Option Addr} {c c' : Nat} {l : List (Int × Int)} (hl : l.length ≤ 100) (h : CmdsAt W a l) (h' : CmdsAt W a' l) :
    Calls Try.prog 17 #[.slice a l.length c, .slice a' l.length c'] W fun e w' => e = .returned (.bool true) ∧ Below W.heap.size W w' := by
  have hh := Lib.hid h
  have hh' := Lib.hid h'
  clear h h'
  go_enter Try.func17, Try.ntmps17
  go_wp2
  go_loopw [5] (fun iv wr => ∃ k : Nat, k ≤ l.length ∧ iv = .int .i64 k ∧ Hid (Below W.heap.size W wr)) (fun iv _ => l.length - (intOf iv).toNat)
  case atStart => exact ⟨0, Nat.zero_le _, rfl, Below.refl _ _⟩
  case round =>
    obtain ⟨k, hk, rfl, hB⟩ := hrel
    by_cases hlt : k < l.length
    · obtain ⟨g, rfl, h1, h2, h3, h4, h5⟩ := (hh.out.below hB.out (Nat.le_refl _)) k hlt
      obtain ⟨g', rfl, h1', h2', h3', h4', h5'⟩ := (hh'.out.below hB.out (Nat.le_refl _)) k hlt
      obtain ⟨⟨ck, cs⟩, hcc⟩ : ∃ c, l[k] = c := ⟨_, rfl⟩
      rw [hcc] at h2 h4 h2' h4'
      clear hcc
      dsimp only at h2 h4 h2' h4'
      go_wp2
      go_quiet (fail)
      go_wp2
      go_roundw
      case rel => exact ⟨k + 1, by omega, by go_num, below_drewN hB.out nq⟩
      case measure => simp [intOf]; omega
    · obtain rfl : k = l.length := by omega
      go_wp2
      go_ret
      exact ⟨rfl, hB.out⟩
end Go.Proofs.Ytihkopdamgboiaa
