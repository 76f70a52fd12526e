/- DetectSaid. -/
import Derived.Deep.QuietTactic
import Derived.BigQuiet
import Derived.WalkSmall
import Derived.Deep.RegionWith
import Derived.Test.YtihkopdamgboiaaH
import Derived.Test.YtihkopdamgboiaaJ
import Derived.Test.YtihkopdamgboiaaK
import Derived.Test.YtihkopdamgboiaaM
namespace Go.Proofs.Ytihkopdamgboiaa
open Go.RowKit Go.Shelf
set_option linter.unusedVariables false
attribute [local go_sem] Oper.semAt_some

/-- Heard, whatever is asked. -/
theorem heard_any {W : World} {b h B : Nat} {pat : Int} {zs : List Int} (hw : IsWatch W b h pat zs) (store now : Int) (hh : B ≤ h) :
    Calls Try.prog 9 #[.pointer (some ⟨b, 0, none⟩), .int .i64 store, .int .i64 now] W fun e w' => ∃ (er : Int) (zs' : List Int), e = .returned (.int .i64 er) ∧
      (er = if hearOk zs store now = true then 0 else 1) ∧ zs' = (if hearOk zs store now = true then zs.set (store - 1).toNat now else zs) ∧ IsWatch w' b h pat zs' ∧ Below B W w' := by
  by_cases hk : hearOk zs store now = true
  · have hk' := hk
    simp only [hearOk, decide_eq_true_eq] at hk'
    obtain ⟨k, rfl⟩ : ∃ k : Nat, store = (k : Int) + 1 := ⟨(store - 1).toNat, by omega⟩
    have e1 : ((k : Int) + 1 - 1).toNat = k := by omega
    have hkl : k < zs.length := by omega
    refine (heard_yes hw k now hkl (by have := hk'.2.2; rw [e1] at this; simpa [hkl] using this)).mono ?_
    rintro e w' ⟨rfl, rfl⟩
    exact ⟨0, _, rfl, by rw [if_pos hk], by rw [if_pos hk], by rw [e1]; exact hw.set k hkl now, (Below.refl _ _).setCell (p := ⟨h, k, none⟩) hh _⟩
  · refine (heard_no hw store now (by simpa using hk)).mono ?_
    rintro e w' ⟨rfl, rfl⟩
    exact ⟨1, _, rfl, by rw [if_neg hk], by rw [if_neg hk], hw, Below.refl _ _⟩

theorem ccells_get (r : List (Int × Int)) (j : Nat) (hj : j < r.length) : (ccells r)[j * 4]? = some (.int .u8 r[j].1) ∧ (ccells r)[j * 4 + 1]? = some (.int .i64 0) ∧ (ccells r)[j * 4 + 2]? = some (.int .i64 r[j].2) ∧ (ccells r)[j * 4 + 3]? = some (.int .i64 0) := by
  induction r generalizing j with
  | nil => simp at hj
  | cons c r ih =>
    have e : ccells (c :: r) = ccell c ++ ccells r := by simp [ccells]
    have hlen : (ccell c).length = 4 := rfl
    cases j with
    | zero => rw [e]; exact ⟨rfl, rfl, rfl, rfl⟩
    | succ j =>
      have hj' : j < r.length := by simpa using hj
      obtain ⟨h1, h2, h3, h4⟩ := ih j hj'
      have g : ∀ i, (ccells (c :: r))[(j + 1) * 4 + i]? = (ccells r)[j * 4 + i]? := fun i => by
        rw [e, List.getElem?_append_right (by rw [hlen]; omega), hlen]
        congr 1; omega
      have g0 := g 0
      simp only [Nat.add_zero] at g0
      refine ⟨?_, ?_, ?_, ?_⟩
      · rw [g0, h1]; rfl
      · rw [g 1, h2]
      · rw [g 2, h3]; rfl
      · rw [g 3, h4]
theorem cmdSl_form {n₀ : Nat} {W : World} {v : Value} {r : List (Int × Int)} (h : CmdSl n₀ W v r) :
    ∃ a c, v = .slice a r.length c ∧ ∀ j (hj : j < r.length), ∃ g, a = some ⟨g, 0, none⟩ ∧ g < W.heap.size ∧ W.cell? ⟨g, j * 4, none⟩ = some (.int .u8 r[j].1) ∧ W.cell? ⟨g, j * 4 + 2, none⟩ = some (.int .i64 r[j].2) := by
  rcases h with ⟨rfl, rfl⟩ | ⟨_, g, cap, rfl, h1, h2, h3, h4⟩
  · exact ⟨none, 0, rfl, fun j hj => by simp at hj⟩
  · exact ⟨_, cap, rfl, fun j hj => ⟨g, rfl, h2, h3 _ _ (ccells_get r j hj).1, h3 _ _ (ccells_get r j hj).2.2.1⟩⟩

/-- Says at any tick. -/
def saysA (pat now : Int) (zs ds : List Int) : List (Int × Int) := if now < 0 then [] else says pat now zs ds
theorem saidA_plain (pat now : Int) (zs ds : List Int) : saysA pat now zs (applyAll ds (saysA pat now zs ds)) = [] := by
  unfold saysA
  by_cases h : now < 0
  · simp [h]
  · simp [h, said_plain]
theorem saysA_len (pat now : Int) (zs ds : List Int) (h : zs.length ≤ 5) : (saysA pat now zs ds).length ≤ 5 := by
  unfold saysA
  split
  · simp
  · have := cmds_len ds (upto (item pat now zs) zs.length)
    rw [upto_length] at this
    unfold says; omega
theorem says_gen (b h : Nat) (pat now : Int) (zs ds : List Int) (a : Option Addr) (len cap : Nat) (hds : ds.length ≤ 9223372036854775807) (hp1 : 1 ≤ pat) (hp2 : pat ≤ 100000) (hn1 : now ≤ 9223372036854775807)
    (w : World) (hb : b < w.heap.size) (hh : h < w.heap.size) (hw : IsWatch w b h pat zs) (hsv : Ints w.heap.size w (.slice a len cap) ds) :
    Calls Try.prog 10 #[.pointer (some ⟨b, 0, none⟩), .slice a len cap, .int .i64 now] w fun e w' => ∃ v, e = .returned v ∧ CmdSl w.heap.size w' v (saysA pat now zs ds) ∧ Below w.heap.size w w' := by
  by_cases hn : now < 0
  · refine (says_neg _ _ _ _ _ hn w).mono ?_
    rintro e w' ⟨rfl, hB⟩
    exact ⟨_, rfl, .inl ⟨by simp [saysA, hn], rfl⟩, hB⟩
  · exact says_is _ b h pat now zs ds a len cap (by simp [saysA, hn]) hds hp1 hp2 (by omega) hn1 w hb hh hw hsv

set_option maxRecDepth 100000 in
set_option maxHeartbeats 1000000 in
theorem said_long (a0 a1 : Int) (p2 : Option Addr) (len2 cap2 : Nat) (p3 : Option Addr) (len3 cap3 : Nat) (now : Int) (W : World) (hl : 200 < len2 ∨ 100 < len3) (hm : len2 ≤ 9223372036854775807) (hm3 : len3 ≤ 9223372036854775807) :
    Calls Try.prog 3 #[.int .i64 a0, .int .i64 a1, .slice p2 len2 cap2, .slice p3 len3 cap3, .int .i64 now] W fun e w' => e = .returned (.bool true) ∧ Below W.heap.size W w' := by
  by_cases hl2 : 200 < len2
  · clear hl
    go_enter Try.func3, Try.ntmps3
    go_wp2_with fail
    refine (works_any W).mono ?_
    rintro e w1 ⟨rfl, hB1⟩
    have hz1 := hB1.size
    have hB1' := Lib.hid hB1
    clear hB1
    go_wp2_with fail
    refine (works_any _).mono ?_
    rintro e w2 ⟨rfl, hB2⟩
    have hB2' := Lib.hid hB2
    clear hB2
    go_wp2
    go_ret
    exact ⟨rfl, hB1'.out.trans (hB2'.out.mono hz1)⟩
  · have hl3 : 100 < len3 := by omega
    clear hl
    go_enter Try.func3, Try.ntmps3
    go_wp2_with fail
    refine (works_any W).mono ?_
    rintro e w1 ⟨rfl, hB1⟩
    have hz1 := hB1.size
    have hB1' := Lib.hid hB1
    clear hB1
    go_wp2_with fail
    refine (works_any _).mono ?_
    rintro e w2 ⟨rfl, hB2⟩
    have hB2' := Lib.hid hB2
    clear hB2
    go_wp2
    go_ret
    exact ⟨rfl, hB1'.out.trans (hB2'.out.mono hz1)⟩

set_option maxRecDepth 100000 in
set_option maxHeartbeats 1000000 in
theorem said_short (a0 a1 : Int) (p2 : Option Addr) (len2 cap2 : Nat) (p3 : Option Addr) (len3 cap3 : Nat) (now : Int) (W : World) (hl2 : len2 ≤ 200) (hl3 : len3 ≤ 100)
    (ds : List Int) (hsv : Ints W.heap.size W (.slice p3 len3 cap3) ds) (hdl : ds.length = len3) (hnow : now ≤ 9223372036854775807)
    (hc : ∀ k, k < len2 → ∃ blk off s n, p2 = some ⟨blk, off, none⟩ ∧ blk < W.heap.size ∧ W.cell? ⟨blk, off + k * 4 + 1, none⟩ = some (.int .i64 s) ∧ W.cell? ⟨blk, off + k * 4 + 2, none⟩ = some (.int .i64 n)) :
    Calls Try.prog 3 #[.int .i64 a0, .int .i64 a1, .slice p2 len2 cap2, .slice p3 len3 cap3, .int .i64 now] W fun e w' => e = .returned (.bool true) ∧ Below W.heap.size W w' := by
  have hsv' := Lib.hid hsv
  have hdl' := Lib.hid hdl
  clear hsv hdl
  go_enter Try.func3, Try.ntmps3
  go_wp2_with fail
  refine (works_any W).mono ?_
  rintro e w1 ⟨rfl, hB1⟩
  have hz1 := hB1.size
  have hB1' := Lib.hid hB1
  clear hB1
  go_wp2_with fail
  obtain ⟨p, hp1, hp2, hp⟩ : ∃ p : Int, 1 ≤ p ∧ p ≤ 1000 ∧ wrap64 (1 + wrap64 ((IntKind.u64.wrap a1).tmod 1000)) = p := by
    obtain ⟨s, h0, h1, h2⟩ := step_ex a1 1000 (by omega) (by omega)
    exact ⟨1 + s, by omega, by omega, by rw [h2, wrap_sum 1 s (by omega) (by omega) (by omega) (by omega)]⟩
  obtain ⟨n, hn1, hn2, hn⟩ : ∃ n : Nat, 1 ≤ n ∧ n ≤ 5 ∧ wrap64 (1 + wrap64 ((IntKind.u64.wrap a0).tmod 5)) = (n : Int) := by
    obtain ⟨s, h0, h1, h2⟩ := step_ex a0 5 (by omega) (by omega)
    exact ⟨(1 + s).toNat, by omega, by omega, by rw [h2, wrap_sum 1 s (by omega) (by omega) (by omega) (by omega)]; omega⟩
  rw [hp, hn]
  clear hp hn
  refine (new_yes _ n p 0 hn1 hn2 (by omega) (by omega) (by omega)).mono ?_
  rintro e w2 ⟨b, h, rfl, hw, hb, hh, hB2⟩
  have hz2 := hB2.size
  have hw2 := Lib.hid hw
  have hB2' := Lib.hid (hB1'.out.trans (hB2.mono hz1))
  clear hw hB2 hB1'
  go_wp2_with fail
  go_loopw [13] (fun iv wr => ∃ (k : Nat) (zs : List Int), k ≤ len2 ∧ iv = .int .i64 k ∧ Hid (zs.length = n) ∧ Hid (IsWatch wr b h p zs) ∧ Hid (Below W.heap.size W wr)) (fun iv _ => len2 - (intOf iv).toNat)
  case atStart => exact ⟨0, _, Nat.zero_le _, rfl, by simp [Hid], hw2, hB2'⟩
  case round =>
    obtain ⟨k, zs, hk, rfl, hzl, hwr, hBr⟩ := hrel
    by_cases hlt : k < len2
    · obtain ⟨blk, off, s, sn, rfl, hblk, hcz1, hcz2⟩ := hc k hlt
      have hc1 := (hBr.out.cell (p := ⟨blk, off + k * 4 + 1, none⟩) hblk).trans hcz1
      have hc2 := (hBr.out.cell (p := ⟨blk, off + k * 4 + 2, none⟩) hblk).trans hcz2
      clear hc hcz1 hcz2
      go_wp2
      have hwd : IsWatch wr.drew b h p zs := ⟨hwr.out.pat, hwr.out.sl, hwr.out.at', hwr.out.free, hwr.out.ne, hwr.out.few⟩
      have hhd := Lib.hid ((heard_any (B := W.heap.size) hwd s sn (by omega)).mono (R' := fun e w' => ∃ (er : Int) (zs' : List Int), e = .returned (.int .i64 er) ∧ Hid (zs'.length = zs.length ∧ IsWatch w' b h p zs' ∧ Below W.heap.size wr.drew w')) (by
        rintro e w' ⟨er, zs', h1, h2, h3, h4, h5⟩
        refine ⟨er, zs', h1, ?_, h4, h5⟩
        rw [h3]; split <;> simp))
      clear hwd
      go_region_with (refine hhd.out.mono ?_; rintro e w3 ⟨er, zs', rfl, hres⟩)
      all_goals
        obtain ⟨hzl', hw3, hB3⟩ := hres.out
        have hw3' := Lib.hid hw3
        have hB3' := Lib.hid (hBr.out.trans ((Below.drew (Below.refl _ wr)).trans hB3))
        have hzl2 := Lib.hid (hzl'.trans hzl.out)
        clear hres hzl' hw3 hB3
        go_wp2
        go_roundw
        case rel => exact ⟨k + 1, zs', by omega, by go_num, hzl2, hw3', hB3'⟩
        case measure => simp [intOf]; omega
    · obtain rfl : k = len2 := by omega
      clear hc
      go_wp2_with fail
      have hws := hwr.out.sizes (by rw [hzl.out]; omega)
      have hfew := hwr.out.few
      have hdsl : Hid (ds.length ≤ 100) := by have := hdl'.out; show ds.length ≤ 100; omega
      refine (says_gen b h p now zs ds _ _ _ (by have := hdsl.out; omega) hp1 (by omega) hnow wr hws.1 hws.2 hwr.out ?_).mono ?_
      · exact (hsv'.out.below hBr.out).mono hBr.out.size
      rintro e w3 ⟨v3, rfl, hc3, hB3⟩
      have hB03 := Lib.hid (hBr.out.trans (hB3.mono hBr.out.size))
      have hw3 := Lib.hid (hwr.out.below hws.1 hws.2 hB3)
      have hwz3 := hB3.size
      obtain ⟨a3, c3, rfl, hsay⟩ : ∃ a c, v3 = .slice a (saysA p now zs ds).length c ∧ ∀ j (hj : j < (saysA p now zs ds).length), ∃ g, a = some ⟨g, 0, none⟩ ∧ g < w3.heap.size ∧
          w3.cell? ⟨g, j * 4, none⟩ = some (.int .u8 (saysA p now zs ds)[j].1) ∧ w3.cell? ⟨g, j * 4 + 2, none⟩ = some (.int .i64 (saysA p now zs ds)[j].2) := cmdSl_form hc3
      have hrl := Lib.hid (saysA_len p now zs ds hfew)
      have hpl := Lib.hid (saidA_plain p now zs ds)
      have hsay' := Lib.hid hsay
      have hB3' := Lib.hid hB3
      have hfew' := Lib.hid hfew
      clear hc3 hsay hB3 hwr hBr hfew
      generalize saysA p now zs ds = r at hrl hpl hsay' ⊢
      have hI3 : Ints w3.heap.size (w3.alloc (.cells #[] 3)) (.slice p3 len3 cap3) ds := by
        have hz := hB03.out.size
        exact ((hsv'.out.below hB03.out).mono hz).below ((Below.refl w3.heap.size w3).alloc (Nat.le_refl _) _)
      have hI3' := Lib.hid hI3
      have hlim : ([] : List Int).length + ds.length ≤ 1000000 := by have := hdsl.out; simp; omega
      have hlim' := Lib.hid hlim
      have hown0 := Lib.hid (own_empty (B := w3.heap.size) (W := w3) (Nat.le_refl _))
      clear hI3 hlim
      go_wp2_with (at_builtin; go_loud (refine wpList_append_ints rfl (.tmp 70) (.tmp 71) rfl rfl hown0.out rfl hI3'.out hlim'.out (by simp) ?_); intro v4 w4 hown4 hgrow4)
      have hB4 : Below w3.heap.size w3 w4 := below_of_own ((Below.refl _ w3).alloc (Nat.le_refl _) _) hown0.out hgrow4 (by simp)
      have hB4' := Lib.hid hB4
      have hown4' : Hid (OwnInts w3.heap.size w4 v4 ds) := by show OwnInts _ _ _ _; simpa using hown4
      clear hgrow4 hown4 hB4 hI3' hown0 hlim'
      obtain ⟨B, hBe⟩ : ∃ B, w3.heap.size = B := ⟨_, rfl⟩
      have hBe' := Lib.hid hBe
      rw [hBe] at hown4' hB4'
      clear hBe
      go_loopw [15, 16] (fun av iv wr => ∃ (j : Nat), j ≤ r.length ∧ iv = .int .i64 j ∧ Hid (OwnInts B wr av (applyAll ds (r.take j))) ∧ Hid (Below B w3 wr)) (fun _ iv _ => r.length - (intOf iv).toNat)
      case atStart => exact ⟨0, Nat.zero_le _, rfl, hown4', hB4'⟩
      case round =>
        obtain ⟨j, hj, rfl, hav, hBw⟩ := hrel
        have hjb : j ≤ 5 := by have := hrl.out; omega
        have hal : Hid ((applyAll ds (r.take j)).length ≤ 110) := by
          have h1 := applyAll_len ds (r.take j)
          have h2 : (r.take j).length ≤ r.length := List.length_take_le' _ _
          have h3 := hdsl.out
          have h4 := hrl.out
          show _ ≤ 110
          omega
        by_cases hjl : j < r.length
        · obtain ⟨g, rfl, hg, hk1, hk2⟩ := hsay'.out j hjl
          have hstep : Hid (applyAll ds (r.take (j + 1)) = applyC (applyAll ds (r.take j)) r[j]) := by
            show _ = _
            rw [List.take_succ_eq_append_getElem hjl, applyAll_snoc]
          have hc1 := (hBw.out.cell (p := ⟨g, j * 4, none⟩) (by have := hBe'.out; simp; omega)).trans hk1
          have hc2 := (hBw.out.cell (p := ⟨g, j * 4 + 2, none⟩) (by have := hBe'.out; simp; omega)).trans hk2
          have hwz := hBw.out.size
          have hBw2 : B ≤ wr.heap.size := by have := hBe'.out; omega
          clear hk1 hk2
          obtain ⟨A, hA⟩ : ∃ A, applyAll ds (r.take j) = A := ⟨_, rfl⟩
          rw [hA] at hal hstep hav
          clear hA
          obtain ⟨⟨ck, cs⟩, hcc⟩ : ∃ c, r[j] = c := ⟨_, rfl⟩
          rw [hcc] at hstep hc1 hc2
          dsimp only at hc1 hc2
          clear hcc
          have hal2 : Hid (A.length + 1 ≤ 1000000) := by have := hal.out; show _ ≤ 1000000; omega
          by_cases hck : ck = 5
          · have hap : Hid (applyC A (ck, cs) = A ++ [cs]) := by show _ = _; simp [applyC, hck]
            have ht : (ck == 5) = true := by simpa using hck
            have hck' := Lib.hid hck
            clear hck
            go_wp2_with (at_builtin; go_loud (refine wpList_append_one rfl (.tmp 85) (.tmp 91) rfl rfl hav.out cs rfl hal2.out hBw2 ?_); intro v5 w5 hown5 hB5; have hown5' := Lib.hid hown5; have hB5' := Lib.hid hB5; clear hown5 hB5)
            go_roundw
            case rel => exact ⟨j + 1, by omega, by go_num, by rw [hstep.out, hap.out]; exact hown5', hBw.out.trans hB5'.out⟩
            case measure => simp [intOf]; omega
          · have hap : Hid (applyC A (ck, cs) = A.filter fun x => decide (x ≠ cs)) := by show _ = _; simp [applyC, hck]
            have ht : (ck == 5) = false := by simpa using hck
            have hck' := Lib.hid hck
            clear hck
            obtain ⟨aa, ca, rfl, hcells⟩ := own_form hav.out
            have hcells' := Lib.hid hcells
            clear hcells
            obtain ⟨B1, hB1e⟩ : ∃ B1, wr.heap.size = B1 := ⟨_, rfl⟩
            have hB1e' := Lib.hid hB1e
            have hBB : B ≤ B1 := by omega
            clear hB1e
            go_wp2_with fail
            obtain ⟨wo, rfl⟩ : ∃ wo : World, wo = wr := ⟨_, rfl⟩
            go_loopw [17, 18] (fun lv kv wi => ∃ (q : Nat), q ≤ A.length ∧ kv = .int .i64 q ∧ Hid (OwnInts B1 wi lv ((A.take q).filter fun x => decide (x ≠ cs))) ∧ Hid (Below B1 wo wi)) (fun _ kv _ => A.length - (intOf kv).toNat)
            case atStart => exact ⟨0, Nat.zero_le _, rfl, by show OwnInts _ _ _ _; simpa using own_nil, Below.refl _ _⟩
            case round =>
              obtain ⟨q, hq, rfl, hlv, hBi⟩ := hrel
              have hqb : q ≤ 110 := by have := hal.out; omega
              by_cases hql : q < A.length
              · obtain ⟨g5, rfl, hg5, hg6, hk5⟩ := hcells'.out q hql
                have hc5 := (hBi.out.cell (p := ⟨g5, q, none⟩) (by have := hB1e'.out; simp; omega)).trans hk5
                have hc6 := (hBi.out.cell (p := ⟨g, j * 4 + 2, none⟩) (by have := hB1e'.out; have := hBe'.out; have := hBw.out.size; simp; omega)).trans hc2
                have hBi2 : B1 ≤ wr.heap.size := by have := hB1e'.out; have := hBi.out.size; omega
                clear hk5
                have htk : Hid (A.take (q + 1) = A.take q ++ [A[q]]) := List.take_succ_eq_append_getElem hql
                have hfl : Hid ((List.filter (fun x => decide (x ≠ cs)) (A.take q)).length + 1 ≤ 1000000) := by
                  have h1 := List.length_filter_le (fun x => decide (x ≠ cs)) (A.take q)
                  have h2 : (A.take q).length ≤ A.length := List.length_take_le' _ _
                  have := hal.out
                  show _ ≤ 1000000
                  omega
                by_cases hx : A[q] = cs
                · have hfs : Hid ((A.take (q + 1)).filter (fun x => decide (x ≠ cs)) = (A.take q).filter fun x => decide (x ≠ cs)) := by show _ = _; rw [htk.out, List.filter_append]; simp [hx]
                  have hxb : (A[q] != cs) = false := by simpa using hx
                  have hx' := Lib.hid hx
                  clear hx
                  obtain ⟨x5, hx5⟩ : ∃ x5, A[q] = x5 := ⟨_, rfl⟩
                  rw [hx5] at hc5 hxb
                  have hx5' := Lib.hid hx5
                  clear hx5
                  go_wp2
                  go_quiet (fail)
                  go_wp2
                  go_roundw
                  case rel => exact ⟨q + 1, by omega, by go_num, by rw [hfs.out]; exact own_below hlv.out (below_drewN (Below.refl wr.heap.size wr) nq) (Nat.le_refl _), below_drewN hBi.out nq⟩
                  case measure => simp [intOf]; omega
                · have hfs : Hid ((A.take (q + 1)).filter (fun x => decide (x ≠ cs)) = ((A.take q).filter fun x => decide (x ≠ cs)) ++ [A[q]]) := by show _ = _; rw [htk.out, List.filter_append]; simp [hx]
                  have hxb : (A[q] != cs) = true := by simpa using hx
                  have hx' := Lib.hid hx
                  clear hx
                  obtain ⟨x5, hx5⟩ : ∃ x5, A[q] = x5 := ⟨_, rfl⟩
                  rw [hx5] at hc5 hxb hfs
                  have hx5' := Lib.hid hx5
                  clear hx5
                  go_wp2
                  go_quiet (fail)
                  have hlv2 : Hid (OwnInts B1 (wr.drewN nq) _ _) := own_below hlv.out (below_drewN (Below.refl wr.heap.size wr) nq) (Nat.le_refl _)
                  have hBi3 : B1 ≤ (wr.drewN nq).heap.size := hBi2
                  go_wp2_with (at_builtin; go_loud (refine wpList_append_one (w := wr.drewN nq) rfl (.tmp 109) (.tmp 114) rfl rfl hlv2.out x5 rfl hfl.out hBi3 ?_); intro v6 w6 hown6 hB6; have hown6' := Lib.hid hown6; have hB6' := Lib.hid hB6; clear hown6 hB6)
                  go_roundw
                  case rel => exact ⟨q + 1, by omega, by go_num, by rw [hfs.out]; exact hown6', (below_drewN hBi.out nq).trans hB6'.out⟩
                  case measure => simp [intOf]; omega
              · obtain rfl : q = A.length := by omega
                rw [List.take_length] at hlv
                go_wp2
                go_roundw
                case rel => exact ⟨j + 1, by omega, by go_num, by rw [hstep.out, hap.out]; exact own_mono hlv.out hBB, hBw.out.trans (hBi.out.mono hBB)⟩
                case measure => simp [intOf]; omega
        · obtain rfl : j = r.length := by omega
          rw [List.take_length] at hav
          obtain ⟨aa, ca, rfl, hcells⟩ := own_form hav.out
          have hBw' := Lib.hid (hB03.out.trans (hBw.out.mono (by have := hB03.out.size; have := hBe'.out; omega)))
          have hwf := hw3.out.sizes (by rw [hzl.out]; omega)
          have hbb := hBe'.out
          have hw5 := Lib.hid (hw3.out.below (by omega) (by omega) hBw.out)
          have hwf2 := hw5.out.sizes (by rw [hzl.out]; omega)
          have hal2 : Hid ((applyAll ds r).length ≤ 9223372036854775807) := by
            have h1 := applyAll_len ds r
            have h3 := hdsl.out
            have h4 := hrl.out
            show _ ≤ 9223372036854775807
            omega
          clear hcells
          go_wp2_with fail
          refine (says_gen b h p now zs _ _ _ _ hal2.out hp1 (by omega) hnow wr hwf2.1 hwf2.2 hw5.out (own_ints hav.out (Nat.le_refl _))).mono ?_
          rintro e w7 ⟨v7, rfl, hc7, hB7⟩
          rw [hpl.out] at hc7
          obtain rfl := hc7.nil
          have hB7' := Lib.hid (hBw'.out.trans (hB7.mono hBw'.out.size))
          clear hc7 hB7
          go_wp2
          go_ret
          exact ⟨rfl, hB7'.out⟩
end Go.Proofs.Ytihkopdamgboiaa
