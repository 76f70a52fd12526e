/- DetectPlays. -/
import Derived.Deep.RegionWith
import Derived.Deep.RegionHeld3
import Derived.Deep.DeepCutAuto
import Derived.Deep.CutBlock
import Derived.Test.YtihkopdamgboiaaS
namespace Go.Proofs.Ytihkopdamgboiaa
open Go.RowKit Go.Shelf
set_option linter.unusedVariables false
attribute [local go_sem] Oper.semAt_some

structure HB (w3 w1 : World) : Prop where
  out : Below w3.heap.size w3 w1
structure HC (w3 w1 : World) (a4 : Option Addr) (r : List (Int × Int)) : Prop where
  b : Below w3.heap.size w3 w1
  c : CmdsAt w1 a4 r
/-- The stores' cells of a slice of commands may be written. -/
def Writes (n₀ : Nat) (W : World) (a : Option Addr) (m : Nat) : Prop := ∀ i, i < m → ∃ g v, a = some ⟨g, 0, none⟩ ∧ n₀ ≤ g ∧ W.cell? ⟨g, i * 4 + 2, none⟩ = some v ∧ W.frozen? ⟨g, i * 4 + 2, none⟩ = false
theorem Writes.set {n₀ : Nat} {W : World} {a : Option Addr} {m : Nat} (h : Writes n₀ W a m) (p : Addr) (x : Value) : Writes n₀ (W.setCell p x) a m := fun i hi => by
  obtain ⟨g, v, e, h1, h2, h3⟩ := h i hi
  by_cases hp : p = ⟨g, i * 4 + 2, none⟩
  · subst hp
    exact ⟨g, x, e, h1, World.cell?_setCell_same' _ _ _ (by rw [h2]; rfl), by rw [World.frozen?_setCell]; exact h3⟩
  · exact ⟨g, v, e, h1, by rw [World.cell?_setCell_other _ _ _ _ hp]; exact h2, by rw [World.frozen?_setCell]; exact h3⟩
theorem plays_long (a0 a1 a2 : Int) (p3 : Option Addr) (len3 cap3 : Nat) (W : World) (hl : 300 < len3) (hm : len3 ≤ 9223372036854775807) :
    Calls Try.prog 5 #[.int .i64 a0, .int .i64 a1, .int .i64 a2, .slice p3 len3 cap3] W fun e w' => e = .returned (.bool true) ∧ Below W.heap.size W w' := by
  go_enter Try.func5, Try.ntmps5
  go_wp2
  go_ret
  exact ⟨rfl, Below.refl _ _⟩
set_option maxHeartbeats 1000000 in
theorem plays_no (a0 a1 a2 : Int) (p3 : Option Addr) (len3 cap3 : Nat) (W : World) (hl : len3 ≤ 300) (hn : newOk a0 a1 a2 = false) :
    Calls Try.prog 5 #[.int .i64 a0, .int .i64 a1, .int .i64 a2, .slice p3 len3 cap3] W fun e w' => e = .returned (.bool true) ∧ Below W.heap.size W w' := by
  go_enter Try.func5, Try.ntmps5
  go_wp2_with fail
  refine (new_no _ _ _ _ hn).mono ?_
  rintro e w' ⟨rfl, rfl⟩
  go_wp2_with fail
  refine (rnew_no _ _ _ _ hn).mono ?_
  rintro e w' ⟨rfl, rfl⟩
  go_wp2
  go_ret
  exact ⟨rfl, Below.refl _ _⟩

set_option maxRecDepth 100000 in
set_option maxHeartbeats 2000000 in
theorem plays_yes (n : Nat) (p now0 : Int) (p3 : Option Addr) (len3 cap3 : Nat) (W : World) (hl : len3 ≤ 300) (hn1 : 1 ≤ n) (hn2 : n ≤ 5) (hp1 : 1 ≤ p) (hp2 : p ≤ 100000) (hn0 : 0 ≤ now0)
    (hc : ∀ k, k < len3 → ∃ blk off kd st nw pd ld cd ds, p3 = some ⟨blk, off, none⟩ ∧ blk < W.heap.size ∧ StepAt W blk (off + k * 4) kd st nw pd ld cd ds) :
    Calls Try.prog 5 #[.int .i64 n, .int .i64 p, .int .i64 now0, .slice p3 len3 cap3] W fun e w' => e = .returned (.bool true) ∧ Below W.heap.size W w' := by
  have hc' := Lib.hid hc
  clear hc
  go_enter Try.func5, Try.ntmps5
  go_wp2_with fail
  refine (new_yes _ n p now0 hn1 hn2 hp1 hp2 hn0).mono ?_
  rintro e w1 ⟨b, h, rfl, hw, hb, hh, hB⟩
  have hs1 := hw.sizes (by simp; omega)
  have hz1 := hB.size
  have hw1 := Lib.hid hw
  have hB1 := Lib.hid hB
  clear hw hB
  go_wp2_with fail
  refine (rnew_yes _ n p now0 hn1 hn2 hp1 hp2 hn0).mono ?_
  rintro e w2 ⟨b', h', c', rfl, hr, hb', hh', hB⟩
  have hs2 := hr.sizes
  have hz2 := hB.size
  have hr2 := Lib.hid hr
  have hw2 := Lib.hid (hw1.out.below hs1.1 hs1.2 hB)
  have hB2 := Lib.hid (hB1.out.trans (hB.mono hz1))
  clear hr hB hw1 hB1
  go_wp2_with fail
  go_loopw [13] (fun iv wr => ∃ (k : Nat) (zs : List Int), k ≤ len3 ∧ iv = .int .i64 k ∧ Hid (zs.length = n) ∧ Hid (IsWatch wr b h p zs) ∧ Hid (IsRef wr b' h' c' p zs) ∧ Hid (Below W.heap.size W wr)) (fun iv _ => len3 - (intOf iv).toNat)
  case atStart => exact ⟨0, _, Nat.zero_le _, rfl, by simp [Hid], hw2, hr2, hB2⟩
  case round =>
    obtain ⟨k, zs, hk, rfl, hzl, hwr, hrr, hBr⟩ := hrel
    by_cases hlt : k < len3
    · obtain ⟨blk, off, kd, st, nw, pd, ld, cd, ds, rfl, hblk, hst⟩ := hc'.out k hlt
      have hbz := hBr.out.size
      have hsw := hwr.out.sizes (by rw [hzl.out]; omega)
      have hsr := hrr.out.sizes
      have c0 := (hBr.out.cell (p := ⟨blk, off + k * 4, none⟩) hblk).trans hst.kind
      have c1 := (hBr.out.cell (p := ⟨blk, off + k * 4 + 1, none⟩) hblk).trans hst.store
      have c2 := (hBr.out.cell (p := ⟨blk, off + k * 4 + 2, none⟩) hblk).trans hst.now
      have c3 := (hBr.out.cell (p := ⟨blk, off + k * 4 + 3, none⟩) hblk).trans hst.downs
      have hnt := hst.top
      have hnl := hst.low
      have hint := Lib.hid hst.ints
      have hdl := Lib.hid hst.len
      have hldm := Lib.hid hst.few
      clear hst
      go_upto_block 2 with (fail)
      go_cut [] (fun wx => ∃ zs', Hid (zs'.length = n) ∧ Hid (IsWatch wx b h p zs') ∧ Hid (IsRef wx b' h' c' p zs') ∧ Hid (Below W.heap.size W wx) ∧ wx.heap.size = wr.heap.size + 1 ∧
        wx.cell? ⟨wr.heap.size, 0, none⟩ = some (.int .i64 kd) ∧ wx.cell? ⟨wr.heap.size, 1, none⟩ = some (.int .i64 st) ∧ wx.cell? ⟨wr.heap.size, 2, none⟩ = some (.int .i64 nw) ∧ wx.cell? ⟨wr.heap.size, 3, none⟩ = some (.slice pd ld cd))
      case first =>
        have hal : Below wr.heap.size wr (wr.alloc (.cells #[.int .i64 kd, .int .i64 st, .int .i64 nw, .slice pd ld cd] 32)) := (Below.refl _ _).alloc (Nat.le_refl _) _
        have hwa := Lib.hid (hwr.out.below hsw.1 hsw.2 hal)
        have hra := Lib.hid (hrr.out.below hsr.1 hsr.2 hal)
        have hBa := Lib.hid (hBr.out.trans (hal.mono hbz))
        have x0 : (wr.alloc (.cells #[.int .i64 kd, .int .i64 st, .int .i64 nw, .slice pd ld cd] 32)).cell? ⟨wr.heap.size, 0, none⟩ = some (.int .i64 kd) := by rw [World.cell?_alloc_at _ _ _ _ rfl]; rfl
        have x1 : (wr.alloc (.cells #[.int .i64 kd, .int .i64 st, .int .i64 nw, .slice pd ld cd] 32)).cell? ⟨wr.heap.size, 1, none⟩ = some (.int .i64 st) := by rw [World.cell?_alloc_at _ _ _ _ rfl]; rfl
        have x2 : (wr.alloc (.cells #[.int .i64 kd, .int .i64 st, .int .i64 nw, .slice pd ld cd] 32)).cell? ⟨wr.heap.size, 2, none⟩ = some (.int .i64 nw) := by rw [World.cell?_alloc_at _ _ _ _ rfl]; rfl
        have x3 : (wr.alloc (.cells #[.int .i64 kd, .int .i64 st, .int .i64 nw, .slice pd ld cd] 32)).cell? ⟨wr.heap.size, 3, none⟩ = some (.slice pd ld cd) := by rw [World.cell?_alloc_at _ _ _ _ rfl]; rfl
        have xs : (wr.alloc (.cells #[.int .i64 kd, .int .i64 st, .int .i64 nw, .slice pd ld cd] 32)).heap.size = wr.heap.size + 1 := by simp
        have hne : b' ≠ h ∧ h' ≠ h ∧ b ≠ h' ∧ h ≠ h' := by omega
        clear hal c0 c1 c2 c3
        generalize wr.alloc (.cells #[.int .i64 kd, .int .i64 st, .int .i64 nw, .slice pd ld cd] 32) = wa at hwa hra hBa x0 x1 x2 x3 xs ⊢
        by_cases hk0 : kd = 0
        · have ht : (kd == 0) = true := by simpa using hk0
          have hkk := Lib.hid hk0
          clear hk0
          obtain ⟨ok, hok⟩ : ∃ ok, hearOk zs st nw = ok := ⟨_, rfl⟩
          have HE : ∀ w1 : World, w1.heap = wa.heap → Below W.heap.size wa w1 → Calls Try.prog 9 #[.pointer (some ⟨b, 0, none⟩), .int .i64 st, .int .i64 nw] w1 fun e w' => e = .returned (.int .i64 (heardE ok)) ∧
              Hid (IsWatch w' b h p (heardL zs st nw) ∧ Touch h wa w' ∧ Below W.heap.size wa w') := fun w1 e1 eb => by
            have := heard_gen (B := W.heap.size) (hwa.out.touch (Touch.of_heap (h := wa.heap.size) e1) (by omega) (by omega)) st nw hh
            rw [hok] at this
            exact this.mono fun e w' ⟨g0, g1, g2, g3⟩ => ⟨g0, g1, (Touch.of_heap e1).trans g3, eb.trans g2⟩
          have HR : ∀ w0 w1 : World, Hid (IsWatch w0 b h p (heardL zs st nw) ∧ Touch h wa w0 ∧ Below W.heap.size wa w0) → w1.heap = w0.heap → Below W.heap.size w0 w1 → Calls Try.prog 14 #[.pointer (some ⟨b', 0, none⟩), .int .i64 st, .int .i64 nw] w1 fun e w' => e = .returned (.bool ok) ∧
              Hid (IsWatch w' b h p (heardL zs st nw) ∧ IsRef w' b' h' c' p (heardL zs st nw) ∧ w'.heap.size = wa.heap.size ∧ Below W.heap.size wa w' ∧ (∀ o, w'.cell? ⟨wr.heap.size, o, none⟩ = wa.cell? ⟨wr.heap.size, o, none⟩)) := fun w0 w1 hp0 e1 eb => by
            obtain ⟨q1, q2, q3⟩ := hp0.out
            have t0 : Touch h wa w1 := q2.trans (Touch.of_heap e1)
            have := hear_gen (B := W.heap.size) (hra.out.touch t0 hne.1 hne.2.1) st nw (by omega)
            rw [hok] at this
            refine this.mono fun e w' ⟨g0, g1, g2, g3⟩ => ⟨g0, (q1.touch (Touch.of_heap (h := h') e1) hne.2.2.1 hne.2.2.2).touch g3 hne.2.2.1 hne.2.2.2, g1, by rw [g3.size, t0.size], q3.trans (eb.trans g2), fun o => ?_⟩
            rw [g3.cell (by omega), t0.cell (by omega)]
          have HE' := Lib.hid HE
          have HR' := Lib.hid HR
          clear HE HR hok
          cases ok
          all_goals
            go_wp2
            go_region_held3 (fun w' => w'.cell? ⟨wr.heap.size, 1, none⟩ = some (.int .i64 st) ∧ w'.cell? ⟨wr.heap.size, 2, none⟩ = some (.int .i64 nw)) (go_keep) (first
              | (go_at_call 9; refine (HE'.out _ (by rfl) (by first | exact Below.refl _ _ | exact Below.drew (Below.refl _ _))).mono ?_; rintro e wb ⟨rfl, hp0⟩; have y1 := (hp0.out.2.1.cell (g := wr.heap.size) (o := 1) (by omega)).trans x1; have y2 := (hp0.out.2.1.cell (g := wr.heap.size) (o := 2) (by omega)).trans x2)
              | (go_at_call 14; refine (HR'.out _ _ (by assumption) (by rfl) (by first | exact Below.refl _ _ | exact Below.drew (Below.refl _ _))).mono ?_; rintro e wc ⟨rfl, hp1⟩; have z1 := (hp1.out.2.2.2.2 1).trans x1; have z2 := (hp1.out.2.2.2.2 2).trans x2))
            obtain ⟨q1, q2, q3, q4, q5⟩ : (IsWatch wc b h p (heardL zs st nw) ∧ IsRef wc b' h' c' p (heardL zs st nw) ∧ wc.heap.size = wa.heap.size ∧ Below W.heap.size wa wc ∧ (∀ o, wc.cell? ⟨wr.heap.size, o, none⟩ = wa.cell? ⟨wr.heap.size, o, none⟩)) := by assumption
            have z0 := (q5 0).trans x0
            have z1 := (q5 1).trans x1
            have z2 := (q5 2).trans x2
            have z3 := (q5 3).trans x3
            have q1' := Lib.hid q1
            have q2' := Lib.hid q2
            have q4' := Lib.hid (hBa.out.trans q4)
            clear q1 q2 q4 q5
            go_wp2
            go_meet
            case rel => exact ⟨_, by show _ = _; rw [heardL_len]; exact hzl.out, q1', q2', q4', by omega, z0, z1, z2, z3⟩
        · have ht : (kd == 0) = false := by simpa using hk0
          by_cases hk2 : kd = 2
          · have ht2 : (kd == 2) = true := by simpa using hk2
            have hkk := Lib.hid hk2
            clear hk0 hk2
            go_wp2_with fail
            refine (again_gen (B := W.heap.size) hwa.out nw hh).mono ?_
            rintro e wb ⟨rfl, g1, g2, g3⟩
            have y0 := (g3.cell (o := 0) (by omega)).trans x0
            have y1 := (g3.cell (o := 1) (by omega)).trans x1
            have y2 := (g3.cell (o := 2) (by omega)).trans x2
            have y3 := (g3.cell (o := 3) (by omega)).trans x3
            have ys := g3.size
            have hwb := Lib.hid g1
            have hrb := Lib.hid (hra.out.touch g3 hne.1 hne.2.1)
            have hBb := Lib.hid (hBa.out.trans g2)
            clear g1 g2 g3 x0 x1 x2 x3
            go_wp2_with fail
            refine (ragain_gen (B := W.heap.size) hrb.out nw (by omega)).mono ?_
            rintro e wc ⟨rfl, g1, g2, g3⟩
            have z0 := (g3.cell (o := 0) (by omega)).trans y0
            have z1 := (g3.cell (o := 1) (by omega)).trans y1
            have z2 := (g3.cell (o := 2) (by omega)).trans y2
            have z3 := (g3.cell (o := 3) (by omega)).trans y3
            have zsz := g3.size
            have hwc := Lib.hid (hwb.out.touch g3 hne.2.2.1 hne.2.2.2)
            have hrc := Lib.hid g1
            have hBc := Lib.hid (hBb.out.trans g2)
            clear g1 g2 g3 y0 y1 y2 y3
            go_wp2
            go_meet
            case rel => exact ⟨_, by show _ = _; rw [againL_len]; exact hzl.out, hwc, hrc, hBc, by omega, z0, z1, z2, z3⟩
          · have ht2 : (kd == 2) = false := by simpa using hk2
            clear hk0 hk2
            go_wp2
            go_meet
            case rel => exact ⟨_, hzl, hwa, hra, hBa, xs, x0, x1, x2, x3⟩
      case rest =>
        obtain ⟨zs', hzl', hwx, hrx, hBx, hxs, x0, x1, x2, x3⟩ := hcut
        have hcz := hBx.out.size
        have hsx := hwx.out.sizes (by rw [hzl'.out]; omega)
        have hsx' := hrx.out.sizes
        have hfew := hwx.out.few
        clear hwr hrr hBr c0 c1 c2 c3
        go_wp2_with fail
        refine (says_gen b h p nw zs' ds _ _ _ (by have := hdl.out; have := hldm.out; omega) hp1 hp2 hnt wc hsx.1 hsx.2 hwx.out ((hint.out.below hBx.out).mono hcz)).mono ?_
        rintro e w3 ⟨v3, rfl, hc3, hB3⟩
        obtain ⟨a3, c3, rfl, hat, hfree⟩ := cmdSl_at hc3
        have hrl := Lib.hid (saysA_len p nw zs' ds hfew)
        obtain ⟨r, hr⟩ : ∃ r, saysA p nw zs' ds = r := ⟨_, rfl⟩
        rw [hr] at hat hfree hrl ⊢
        have hz3 := hB3.size
        have hB33 := Lib.hid hB3
        have hat' := Lib.hid hat
        have hfree' := Lib.hid hfree
        have y0 := (hB3.cell (p := ⟨wr.heap.size, 0, none⟩) (by simp; omega)).trans x0
        have y1 := (hB3.cell (p := ⟨wr.heap.size, 1, none⟩) (by simp; omega)).trans x1
        have y2 := (hB3.cell (p := ⟨wr.heap.size, 2, none⟩) (by simp; omega)).trans x2
        have y3 := (hB3.cell (p := ⟨wr.heap.size, 3, none⟩) (by simp; omega)).trans x3
        obtain ⟨sil, hsil⟩ : ∃ sil, silentA p nw zs' st = sil := ⟨_, rfl⟩
        have hI3 : Ints w3.heap.size w3 (.slice pd ld cd) ds := ((((hint.out.below hBx.out).mono hcz).below hB3).mono hz3)
        have C12 : ∀ w1 : World, HB w3 w1 → Calls Try.prog 12 #[.pointer (some ⟨b, 0, none⟩), .int .i64 st, .int .i64 nw] w1 fun e w' => e = .returned (.bool sil) ∧ HB w3 w' := fun w1 hb1 => by
          have := hb1.out.size
          have g := silent_gen b h p nw st zs' hp1 hp2 hnt w1 (by omega) (by omega) ((hwx.out.below hsx.1 hsx.2 hB3).below (by omega) (by omega) hb1.out)
          rw [hsil] at g
          exact g.mono fun e w' ⟨g0, g1⟩ => ⟨g0, ⟨hb1.out.trans (g1.mono (by omega))⟩⟩
        have C16 : ∀ w1 : World, HB w3 w1 → Calls Try.prog 16 #[.pointer (some ⟨b', 0, none⟩), .int .i64 st, .int .i64 nw] w1 fun e w' => e = .returned (.bool sil) ∧ HB w3 w' := fun w1 hb1 => by
          have := hb1.out.size
          have g := rsilent_any ((hrx.out.below hsx'.1 hsx'.2 hB3).below (by omega) (by omega) hb1.out) st nw hp1 hp2 hnt
          rw [hsil] at g
          exact g.mono fun e w' ⟨g0, g1⟩ => ⟨g0, ⟨hb1.out.trans (g1.mono (by omega))⟩⟩
        have C18 : ∀ w1 : World, HB w3 w1 → Calls Try.prog 18 #[.pointer (some ⟨b', 0, none⟩), .slice pd ld cd, .int .i64 nw] w1 fun e w' => ∃ a4 c4, e = .returned (.slice a4 r.length c4) ∧ HC w3 w' a4 r := fun w1 hb1 => by
          have hq := hb1.out.size
          have g := rsays_gen ((hrx.out.below hsx'.1 hsx'.2 hB3).below (by omega) (by omega) hb1.out) nw ds pd ld cd hldm.out hp1 hp2 hnt ((hI3.below hb1.out).mono hq)
          rw [hr] at g
          refine g.mono ?_
          rintro e w' ⟨v, rfl, g1, g2⟩
          obtain ⟨a4, c4, rfl, g3, _⟩ := cmdSl_at g1
          exact ⟨a4, c4, rfl, ⟨hb1.out.trans (g2.mono (by omega)), g3⟩⟩
        have C17 : ∀ (w1 : World) a4 c4, HC w3 w1 a4 r → Calls Try.prog 17 #[.slice a3 r.length c3, .slice a4 r.length c4] w1 fun e w' => e = .returned (.bool true) ∧ HB w3 w' := fun w1 a4 c4 hb1 => by
          have hq := hb1.b.size
          exact (commands_same (by have := hrl.out; omega) (hat.below hb1.b (Nat.le_refl _)) hb1.c).mono fun e w' ⟨g0, g1⟩ => ⟨g0, ⟨hb1.b.trans (g1.mono (by omega))⟩⟩
        have C12' := Lib.hid C12
        have C16' := Lib.hid C16
        have C17' := Lib.hid C17
        have C18' := Lib.hid C18
        have hb0 : HB w3 w3 := ⟨Below.refl _ _⟩
        have hb00 : HB w3 w3.drew := ⟨Below.drew (Below.refl _ _)⟩
        have hlt3 : wr.heap.size < w3.heap.size := by omega
        clear C12 C16 C17 C18 hc3 hat hfree hB3 hI3 hr hsil x0 x1 x2 x3
        cases sil
        all_goals
          go_wp2
          go_region_held3 (fun w' => w'.cell? ⟨wr.heap.size, 1, none⟩ = some (.int .i64 st) ∧ w'.cell? ⟨wr.heap.size, 2, none⟩ = some (.int .i64 nw) ∧ w'.cell? ⟨wr.heap.size, 3, none⟩ = some (.slice pd ld cd)) (go_keep) (first
            | (go_at_call 12; refine (C12'.out _ (by assumption)).mono ?_; rintro e w4 ⟨rfl, hb4⟩; have p1 := (hb4.out.cell (p := ⟨wr.heap.size, 1, none⟩) hlt3).trans y1; have p2 := (hb4.out.cell (p := ⟨wr.heap.size, 2, none⟩) hlt3).trans y2; have p3 := (hb4.out.cell (p := ⟨wr.heap.size, 3, none⟩) hlt3).trans y3)
            | (go_at_call 16; refine (C16'.out _ (by assumption)).mono ?_; rintro e w5 ⟨rfl, hb5⟩; have p1 := (hb5.out.cell (p := ⟨wr.heap.size, 1, none⟩) hlt3).trans y1; have p2 := (hb5.out.cell (p := ⟨wr.heap.size, 2, none⟩) hlt3).trans y2; have p3 := (hb5.out.cell (p := ⟨wr.heap.size, 3, none⟩) hlt3).trans y3)
            | (go_at_call 18; refine (C18'.out _ (by assumption)).mono ?_; rintro e w6 ⟨a4, c4, rfl, hb6⟩; have p1 := (hb6.b.cell (p := ⟨wr.heap.size, 1, none⟩) hlt3).trans y1; have p2 := (hb6.b.cell (p := ⟨wr.heap.size, 2, none⟩) hlt3).trans y2; have p3 := (hb6.b.cell (p := ⟨wr.heap.size, 3, none⟩) hlt3).trans y3)
            | (go_at_call 17; refine (C17'.out _ _ _ (by assumption)).mono ?_; rintro e w7 ⟨rfl, hb7⟩; have p1 := (hb7.out.cell (p := ⟨wr.heap.size, 1, none⟩) hlt3).trans y1; have p2 := (hb7.out.cell (p := ⟨wr.heap.size, 2, none⟩) hlt3).trans y2; have p3 := (hb7.out.cell (p := ⟨wr.heap.size, 3, none⟩) hlt3).trans y3))
          have hb7 : HB w3 w7 := by assumption
          have hwr7 : Hid (Writes wc.heap.size w7 a3 r.length) := fun i hi => by
            obtain ⟨g, e1, q1, q2, q3, q4, q5⟩ := hat'.out i hi
            obtain ⟨g', e2, q6, q7⟩ := hfree'.out i hi
            rw [e1] at e2
            cases e2
            exact ⟨g, _, e1, q6, (hb7.out.cell (p := ⟨g, i * 4 + 2, none⟩) q1).trans q4, (hb7.out.frozen (p := ⟨g, i * 4 + 2, none⟩) q1).trans (q7 _)⟩
          have hB7 := Lib.hid (hB33.out.trans (hb7.out.mono hz3))
          have hrl5 : r.length ≤ 5 := hrl.out
          have hws : b < wc.heap.size ∧ h < wc.heap.size ∧ b' < wc.heap.size ∧ h' < wc.heap.size := ⟨hsx.1, hsx.2, hsx'.1, hsx'.2⟩
          obtain ⟨wo, hwo⟩ : ∃ wo : World, wo = wr := ⟨_, rfl⟩
          clear hat' hfree' C12' C16' C17' C18' y0 y1 y2 y3 hb0 hb00 hlt3 hxs
          clear hwo
          go_wp2_with fail
          go_loopw [16] (fun iv wz => ∃ j : Nat, j ≤ r.length ∧ iv = .int .i64 j ∧ Hid (Writes wc.heap.size wz a3 r.length) ∧ Hid (Below wc.heap.size wc wz)) (fun iv _ => r.length - (intOf iv).toNat)
          case atStart => exact ⟨0, Nat.zero_le _, rfl, hwr7, hB7⟩
          case round =>
            obtain ⟨j, hj, rfl, hwz, hBz⟩ := hrel
            by_cases hjl : j < r.length
            · obtain ⟨g, v, rfl, q1, q2, q3⟩ := hwz.out j hjl
              go_wp2
              go_roundw
              case rel => exact ⟨j + 1, by omega, by go_num, hwz.out.set _ _, hBz.out.setCell (p := ⟨g, j * 4 + 2, none⟩) q1 _⟩
              case measure => simp [intOf]; omega
            · obtain rfl : j = r.length := by omega
              have hfin := Lib.hid (hwx.out.below hws.1 hws.2.1 hBz.out)
              have hfir := Lib.hid (hrx.out.below hws.2.2.1 hws.2.2.2 hBz.out)
              have hfB := Lib.hid (hBx.out.trans (hBz.out.mono hcz))
              go_wp2
              go_roundw
              case rel => exact ⟨k + 1, zs', by omega, by go_num, hzl', hfin, hfir, hfB⟩
              case measure => simp [intOf]; omega
    · obtain rfl : k = len3 := by omega
      go_wp2
      go_ret
      exact ⟨rfl, hBr.out⟩
end Go.Proofs.Ytihkopdamgboiaa
