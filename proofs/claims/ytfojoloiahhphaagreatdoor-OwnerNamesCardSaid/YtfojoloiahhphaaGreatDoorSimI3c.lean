import Derived.Test.YtfojoloiahhphaaGreatDoorSimI3b
/- Sim, part 42d: maps.Copy: its contract. -/
namespace Sim
open Go
open Go.ChangeMaps (setBlock)

/- what an entry that is laid changes -/
noncomputable def updL (a : Int) (x : CV) (es : List Ent) : List Ent := match lget a es with | some _ => lupd a x es | none => es ++ [(.int .i64 a, x, 0)]
theorem updL_eq (bd : Bp) (a : Int) (x : CV) (es : List Ent) (st : St) : pUpdL .int bd es (.int .i64 a) x st = .ok .undef (st.set bd (.lmap (updL a x es))) := by
  unfold pUpdL updL
  have : keyA .int (.int .i64 a) = some a := rfl
  rw [this]
  dsimp only
  cases lget a es with
  | some u => rfl
  | none => rfl
theorem updL_mem {a : Int} {x : CV} {es : List Ent} (hz : ∀ e ∈ es, e.2.2 = 0) : (∀ y ∈ updL a x es, y.2.2 = 0) ∧ ∀ y, y ∈ updL a x es ↔ y = (.int .i64 a, x, 0) ∨ (y ∈ es ∧ y.1 ≠ .int .i64 a) := by
  unfold updL
  cases hg : lget a es with
  | none =>
    have hno := lget_none hg
    refine ⟨fun y hy => ?_, fun y => ?_⟩
    · rcases List.mem_append.1 hy with h | h
      · exact hz y h
      · rw [List.mem_singleton.1 h]
    · constructor
      · intro h
        rcases List.mem_append.1 h with h | h
        · exact .inr ⟨h, hno y h⟩
        · exact .inl (List.mem_singleton.1 h)
      · rintro (rfl | ⟨h, _⟩)
        · exact List.mem_append.2 (.inr (List.mem_singleton.2 rfl))
        · exact List.mem_append.2 (.inl h)
  | some u =>
    obtain ⟨e0, h1, h2, _⟩ := lget_some hg
    have hm : ∀ y, y ∈ lupd a x es ↔ y = (.int .i64 a, x, 0) ∨ (y ∈ es ∧ y.1 ≠ .int .i64 a) := by
      intro y
      rw [lupd_map, List.mem_map]
      constructor
      · rintro ⟨e, he, rfl⟩
        split
        · rename_i hi
          have h3 := isA_iff.1 hi
          exact .inl (by rw [h3, hz e he])
        · rename_i hi
          exact .inr ⟨he, fun hh => hi (isA_iff.2 hh)⟩
      · rintro (rfl | ⟨h, hn⟩)
        · refine ⟨e0, h1, ?_⟩
          rw [if_pos (isA_iff.2 h2), h2, hz e0 h1]
        · exact ⟨y, h, by rw [if_neg (fun hh => hn (isA_iff.1 hh))]⟩
    refine ⟨fun y hy => ?_, hm⟩
    rcases (hm y).1 hy with rfl | ⟨h, _⟩
    · rfl
    · exact hz y h

theorem nodup_of_keys {es : List Ent} (h : (es.map (·.1)).Nodup) : es.Nodup := by
  unfold List.Nodup at h ⊢
  rw [List.pairwise_map] at h
  exact h.imp fun hab e => hab (by rw [e])
theorem nodup_inj {es : List Ent} (h : (es.map (·.1)).Nodup) {x y : Ent} (hx : x ∈ es) (hy : y ∈ es) (he : x.1 = y.1) : x = y := by
  obtain ⟨i, hi, rfl⟩ := List.getElem_of_mem hx
  obtain ⟨j, hj, rfl⟩ := List.getElem_of_mem hy
  have := (List.getElem_inj (i := i) (j := j) (h₀ := by simpa using hi) (h₁ := by simpa using hj) h).1 (by simpa using he)
  subst this; rfl

/- acts -/
theorem put_facts {a : Act} {d : Nat} {v : Value} (h : 16 ≤ a.tmps.size) (hd : d < 16) : ∃ a', a.put (some d) v = a' ∧ 16 ≤ a'.tmps.size ∧ a'.defers = a.defers ∧ a'.eval (.tmp d) = v ∧ ∀ k, k ≠ d → a'.eval (.tmp k) = a.eval (.tmp k) :=
  ⟨_, rfl, by simpa [Act.put] using h, rfl, eval_put_same (by omega), fun k hk => eval_put_ne (fun e => hk e.symm)⟩

section
variable {P : Program} {ρ : Ren} {st : St} {w : World}
theorem After.setset {st0 : St} {w0 : World} {b : Bp} {x y : Blk} (h : After ρ st0 w0 ρ ((st0.set b x).set b y) w) : After ρ st0 w0 ρ (st0.set b y) w :=
  After.silent h (fun q _ _ => by
    by_cases e : q = b
    · subst e; simp [St.set, PT.get_put_same]
    · simp [St.set, PT.get_put_ne _ _ _ _ e]) rfl

/-- What holds ahead of a round. -/
structure CopyInv (ρ : Ren) (st0 : St) (w0 : World) (bd : Bp) (rd rs it clk : Nat) (es' : List MapEntry) (pl S D : List Ent) (n : Nat) (a : Act) (w : World) : Prop where
  out : ∃ (cur q : List Ent) (seen : Array Nat) (c0 : Nat), After ρ st0 w0 ρ (st0.set bd (.lmap cur)) w ∧ (∀ x ∈ cur, x.2.2 = 0) ∧ (∀ x, x ∈ cur ↔ x ∈ q ∨ (x ∈ D ∧ ∀ y ∈ q, y.1 ≠ x.1)) ∧ (∀ y ∈ q, y ∈ S) ∧
    (∀ (i : Nat) (e : Ent) (e' : MapEntry), pl[i]? = some e → es'[i]? = some e' → seen.contains e'.born = true → ((e.1, e.2.1, 0) : Ent) ∈ q) ∧
    w.heap[it]? = some (.mapIter (some rs) clk seen c0) ∧ clk ≤ c0 ∧ (leftOf es'.toArray seen).size < n
  src : w.heap[rs]? = some (.map es'.toArray clk)
  size : 16 ≤ a.tmps.size
  dst : a.eval (.tmp 0) = .map (some rd)
  iter : a.eval (.tmp 7) = .pointer (some ⟨it, 0, none⟩)
  defers : a.defers = []

theorem copyG_sound {call : CallF} {f n : Nat} (hf : CopyFn P f n) {args : List CV} {st' : St} {v : CV} (h : copyG n call args st = .ok v st') : CallOut P f args st v st' := by
  obtain ⟨fn, t, kt, et, d0, R0, R1, R2, R3, o0, o1, o2, o3, o4, o5, o6, o7, o8, o9, p0, p1, p2, p3, hfn, hcall, hres, htm, hbody, hR0, hR1, hR2, hR3, hg, ⟨x0, y0⟩, ⟨x1, y1⟩, ⟨x2, y2⟩, ⟨x3, y3⟩, ⟨x4, y4⟩, ⟨x5, y5⟩, ⟨x6, y6⟩, ⟨x7, y7⟩, ⟨x8, y8⟩, ⟨x9, y9⟩, ⟨z0, u0⟩, ⟨z1, u1⟩, ⟨z2, u2⟩, ⟨z3, u3⟩, hund, hdesc, hd0, hdeep, ⟨ti, tz, hti, htz, htn, htc⟩, hagg⟩ := hf.out
  unfold copyG at h
  split at h
  · rename_i bd bs
    rw [bsel_eq] at h
    split at h
    · cases h
    · rename_i hne
      have hne : bd ≠ bs := fun e => hne (bpEq_iff.2 e)
      split at h
      · rename_i d s hd hs
        simp only [bsel_eq, forceE_eq] at h
        split at h
        · rename_i hh
          rw [Bool.and_eq_true, Bool.and_eq_true] at hh
          obtain ⟨hkd, hks, hvals⟩ := hh
          cases h
          refine .inl ⟨hcall, fun ρ w args' hw ha => ?_⟩
          obtain ⟨x', t1, e1, hx, ha2⟩ := ha.inv
          obtain ⟨y', t2, e2, hy, ha3⟩ := ha2.inv
          have e3 : t2 = [] := by have := ha3.len; simpa using this.symm
          subst e3; subst e2
          have e4 : args' = #[x', y'] := by rw [← Array.toArray_toList (xs := args'), e1]
          subst e4
          cases hx with
          | map _ rd szd hrd =>
          cases hy with
          | map _ rs szs hrs =>
          obtain ⟨clk, es', pl, hms, hpl, hval, hst, hik, hnd, hlen⟩ := loose_of hw hs hks hrs
          obtain ⟨_, _, _, _, _, _, _, hikd, hndd, _⟩ := loose_of hw hd hkd hrd
          obtain ⟨bld, hbld⟩ : ∃ blk, st.mem.get bd = some blk := by
            cases hb : st.mem.get bd with
            | some x => exact ⟨x, rfl⟩
            | none => rw [hb] at hd; cases hd
          obtain ⟨bls, hbls⟩ : ∃ blk, st.mem.get bs = some blk := by
            cases hb : st.mem.get bs with
            | some x => exact ⟨x, rfl⟩
            | none => rw [hb] at hs; cases hs
          have hrne : rd ≠ rs := fun e => hne (hw.inj bd bs _ _ rd szd szs hbld hbls hrd (by rw [e]; exact hrs))
          have hreal : ∀ b blk r sz, st.mem.get b = some blk → ρ b = some (r, sz) → r < w.heap.size := fun b blk r sz h1 h2 => by
            obtain ⟨o, g1, _⟩ := hw.at' b blk r sz h1 h2
            exact (Array.getElem?_eq_some_iff.1 g1).1
          have hrdl : rd < w.heap.size := hreal _ _ _ _ hbld hrd
          have hrsl : rs < w.heap.size := hreal _ _ _ _ hbls hrs
          have hA0 := After.loosen hw hd hkd hrd
          have hunk : ∀ (k : Nat) (cur : Blk), w.heap.size ≤ k → ∀ b blk sz, (st.set bd cur).mem.get b = some blk → ρ b ≠ some (k, sz) := fun k cur hk b blk sz h1 h2 => by
            by_cases e : b = bd
            · subst e; rw [hrd] at h2; cases h2; omega
            · simp only [St.set, PT.get_put_ne _ _ _ _ e] at h1
              have := hreal b blk k sz h1 h2; omega
          have hsz : ∀ w : World, (Go.sizeOf et).run P w = .ok n w := fun w => by rw [sizeOf_run hti, htn]
          -- the rounds
          have rounds : ∀ (m : Nat) (a : Act) (w1 : World), CopyInv ρ st w bd rd rs w.heap.size clk es' pl (stripE s) (stripE d) m a w1 →
              Code.rounds P (.seq (.region 1 R1 false) (.seq (.cond (.tmp 9) .skip (.exit 0)) (.block 1 (.seq (.region 2 R2 false) (.region 3 R3 false)))))
                (Exit.inBlock 0 (bodyPost P fn fun e w' => ∃ v' ρ', e = .returned v' ∧ VR ρ' .undef v' ∧ After ρ st w ρ' ⟨st.mem.put bd (some (.lmap (mergeL (stripE d) (stripE s)))), st.next⟩ w')) m a w1 := by
            intro m
            induction m with
            | zero => intro a w1 hI; obtain ⟨_, _, _, _, _, _, _, _, _, _, _, hlt⟩ := hI.out; omega
            | succ m ih =>
              intro a w1 hI
              obtain ⟨cur, q, seen, c0, hA, hzc, hmem, hqS, hseen, hit, hcc, hlt⟩ := hI.out
              rw [rounds_succ]
              apply wp_seq
              apply wp_region_list
              rw [hR1]
              rcases run_next_at (P := P) w1 o2.type w.heap.size rs clk c0 seen es'.toArray clk hit hI.src (fun x hx => hst.1 x hx) hcc with ⟨hz, hrun⟩ | ⟨e, he, w1', hw1', hrun⟩
              · refine stepV (hg o2 (by simp)) (run_next x2 (by rw [hI.iter]; exact hrun)) ?_
                rw [y2]
                obtain ⟨a1, ea1, s1, f1, v1, k1⟩ := put_facts (v := .tuple #[.bool false]) hI.size (show 8 < 16 by decide)
                rw [ea1]
                refine stepV (hg o3 (by simp)) (run_extract (v := .bool false) x3 v1 rfl) ?_
                rw [y3]
                obtain ⟨a2, ea2, s2, f2, v2, k2⟩ := put_facts (v := .bool false) s1 (show 9 < 16 by decide)
                rw [ea2]
                refine wpList_nil ?_
                apply wp_seq
                refine wp_cond_false v2 (wp_exit ?_)
                refine ⟨by rw [f2, f1]; exact hI.defers, .tuple #[], ?_, .tuple #[], ρ, rfl, .undef, ?_⟩
                · unfold results
                  rw [hres, Array.mapM_eq_mapM_toList]
                  rfl
                · have hall := all_seen es'.toArray seen hz
                  have hSq : ∀ y ∈ stripE s, y ∈ q := by
                    intro y hy
                    rw [stripE_map] at hy
                    obtain ⟨e, he, rfl⟩ := List.mem_map.1 hy
                    obtain ⟨i, hi, rfl⟩ := List.getElem_of_mem (hpl.mem_iff.2 he)
                    have hi2 : i < es'.length := by omega
                    exact hseen i pl[i] es'[i] (List.getElem?_eq_getElem hi) (List.getElem?_eq_getElem hi2) (hall _ (by simp))
                  obtain ⟨o, g1, g2⟩ := hA.wr.at' bd (.lmap cur) rd szd (by simp [St.set, PT.get_put_same]) hrd
                  cases g2 with
                  | lmap _ l clock' es2 hp hi hn hs2 hl hv =>
                    have hperm : cur.Perm (mergeL (stripE d) (stripE s)) := by
                      refine (List.perm_ext_iff_of_nodup (nodup_of_keys hn) (nodup_of_keys (mergeL_nodup (strip_nodup hnd) (strip_keys hikd) (strip_nodup hndd)))).2 fun x => ?_
                      rw [hmem x, mergeL_mem (strip_keys hikd) x]
                      constructor
                      · rintro (h | ⟨h1, h2⟩)
                        · exact .inl (hqS x h)
                        · exact .inr ⟨h1, fun y hy => h2 y (hSq y hy)⟩
                      · rintro (h | ⟨h1, h2⟩)
                        · exact .inl (hSq x h)
                        · exact .inr ⟨h1, fun y hy => h2 y (hqS y hy)⟩
                    refine After.setset (x := .lmap cur) (hA.trans ?_)
                    exact After.set (blk0 := .lmap cur) hA.wr (by simp [St.set, PT.get_put_same]) hrd g1
                      (.lmap _ l clock' es2 (hp.trans hperm) (mergeL_keys (strip_keys hikd) (strip_keys hik)) (mergeL_nodup (strip_nodup hnd) (strip_keys hikd) (strip_nodup hndd)) hs2 hl hv szd) (fun _ _ => rfl) rfl rfl rfl
              · obtain ⟨hee, hns⟩ := mem_left he
                obtain ⟨i, hi, hei⟩ := List.getElem_of_mem (show e ∈ es' from by simpa using hee)
                have hil : i < pl.length := by omega
                obtain ⟨hvk, hvv⟩ := hval i pl[i] e (List.getElem?_eq_getElem hil) (by rw [← hei]; exact List.getElem?_eq_getElem hi)
                have hps : pl[i] ∈ s := hpl.mem_iff.1 (List.getElem_mem hil)
                obtain ⟨ka, hka⟩ := hik _ hps
                have hkk : e.key = .int .i64 ka := by rw [hka] at hvk; exact intKey hvk
                have hvo := (allL_iff.1 hvals) _ hps
                obtain ⟨sg, hsg, hsgn, hone⟩ : ∃ sg, pl[i].2.1 = .agg sg ∧ sg.size = n ∧ oneCells sg = true := by
                  clear hvk hka hvv
                  revert hvo
                  generalize pl[i].2.1 = xx
                  intro hvo
                  split at hvo
                  · rename_i sg
                    rw [Bool.and_eq_true, Nat.beq_eq] at hvo
                    exact ⟨sg, rfl, hvo.1, hvo.2⟩
                  · cases hvo
                obtain ⟨l', hl', hVl⟩ : ∃ l' : List Value, e.val = .agg l'.toArray ∧ VRs ρ (row sg) l' := by
                  have hvv' := hvv
                  rw [hsg] at hvv'
                  generalize e.val = ev at hvv'
                  cases hvv' with
                  | agg _ l hl hh => exact ⟨l, rfl, VRs.mk hl hh⟩
                have hll : l'.toArray.size = n := by
                  have := hVl.len
                  rw [row_length] at this
                  simp; omega
                refine stepV (hg o2 (by simp)) (run_next x2 (by rw [hI.iter]; exact hrun)) ?_
                rw [y2]
                obtain ⟨a1, ea1, s1, f1, v1, k1⟩ := put_facts (v := .tuple #[.bool true, e.key, e.val]) hI.size (show 8 < 16 by decide)
                rw [ea1]
                refine stepV (hg o3 (by simp)) (run_extract (v := .bool true) x3 v1 rfl) ?_
                rw [y3]
                obtain ⟨a2, ea2, s2, f2, v2, k2⟩ := put_facts (v := .bool true) s1 (show 9 < 16 by decide)
                rw [ea2]
                refine wpList_nil ?_
                apply wp_seq
                refine wp_cond_true v2 (wp_skip ?_)
                apply wp_block
                apply wp_seq
                apply wp_region_list
                rw [hR2]
                -- the world behind the step
                generalize hw2 : setBlock w1' w.heap.size (.mapIter (some rs) clk (seen.push e.born) clk) = w2
                have hh1 : w1'.heap = w1.heap ∧ w1'.os = w1.os ∧ w1'.output = w1.output := by rcases hw1' with rfl | rfl <;> exact ⟨rfl, rfl, rfl⟩
                have hsz1 := hA.size
                have hits : w.heap.size < w1.heap.size := (Array.getElem?_eq_some_iff.1 hit).1
                have h2s : w2.heap.size = w1.heap.size := by rw [← hw2]; simp [setBlock, hh1.1]
                have h2o : ∀ r, r ≠ w.heap.size → w2.heap[r]? = w1.heap[r]? := fun r hr => by rw [← hw2]; simp only [setBlock, hh1.1]; rw [Array.getElem?_setIfInBounds_ne (fun e => hr e.symm)]
                have h2i : w2.heap[w.heap.size]? = some (.mapIter (some rs) clk (seen.push e.born) clk) := by rw [← hw2]; simp [setBlock, hh1.1, hits]
                have h2os : w2.os = w.os := by rw [← hw2]; exact hh1.2.1.trans hA.os
                have h2out : w2.output = w.output := by rw [← hw2]; exact hh1.2.2.trans hA.output
                have hA2 : After ρ st w ρ (st.set bd (.lmap cur)) w2 := hA.unk hw.glob w.heap.size (Nat.le_refl _) (hunk _ _ (Nat.le_refl _)) (by omega) (fun r _ hr => h2o r hr) (h2os.trans hA.os.symm) (h2out.trans hA.output.symm)
                have h2src : w2.heap[rs]? = some (.map es'.toArray clk) := by rw [h2o rs (by omega)]; exact hI.src
                -- entry, extract, extract
                have i2 : a2.eval (.tmp 7) = .pointer (some ⟨w.heap.size, 0, none⟩) := by rw [k2 7 (by decide), k1 7 (by decide)]; exact hI.iter
                refine stepV (hg o4 (by simp)) (run_entry x4 (by rw [i2]; exact run_entry_at w2 w.heap.size rs clk seen es'.toArray clk e h2i h2src hee hst.2.1)) ?_
                rw [y4]
                obtain ⟨a3, ea3, s3, f3, v3, k3⟩ := put_facts (v := .tuple #[e.key, e.val]) s2 (show 10 < 16 by decide)
                rw [ea3]
                refine stepV (hg o5 (by simp)) (run_extract (v := e.key) x5 v3 rfl) ?_
                rw [y5]
                obtain ⟨a4, ea4, s4, f4, v4, k4⟩ := put_facts (v := e.key) s3 (show 11 < 16 by decide)
                rw [ea4]
                refine stepV (hg o6 (by simp)) (run_extract (v := e.val) x6 (by rw [k4 10 (by decide)]; exact v3) rfl) ?_
                rw [y6]
                obtain ⟨a5, ea5, s5, f5, v5, k5⟩ := put_facts (v := e.val) s4 (show 12 < 16 by decide)
                rw [ea5]
                -- alloc
                refine stepV (hg o7 (by simp)) (run_alloc' x7 hti htz) ?_
                rw [y7]
                obtain ⟨a6, ea6, s6, f6, v6, k6⟩ := put_facts (v := .pointer (some ⟨w2.heap.size, 0, none⟩)) s5 (show 5 < 16 by decide)
                rw [ea6]
                generalize hw3 : ({ w2 with heap := w2.heap.push (.cells tz.cells et) } : World) = w3
                have h3s : w3.heap.size = w2.heap.size + 1 := by rw [← hw3]; simp
                have h3o : ∀ r, r < w2.heap.size → w3.heap[r]? = w2.heap[r]? := fun r hr => by rw [← hw3]; show (w2.heap.push _)[r]? = _; rw [Array.getElem?_push, if_neg (by omega)]
                have h3n : w3.heap[w2.heap.size]? = some (.cells tz.cells et (0, 0)) := by rw [← hw3]; show (w2.heap.push _)[_]? = _; simp
                have hA3 : After ρ st w ρ (st.set bd (.lmap cur)) w3 := hA2.unk hw.glob w2.heap.size hA2.size (hunk _ _ hA2.size) (by omega) (fun r hr _ => h3o r hr) (by rw [← hw3]) (by rw [← hw3])
                -- assign
                refine stepV (hg o8 (by simp)) (run_assign x8) ?_
                rw [y8, show a6.eval (.tmp 11) = e.key from by rw [k6 11 (by decide), k5 11 (by decide)]; exact v4]
                obtain ⟨a7, ea7, s7, f7, v7, k7⟩ := put_facts (v := e.key) s6 (show 4 < 16 by decide)
                rw [ea7]
                -- store
                refine stepU (hg o9 (by simp)) (run_store' (l := l'.toArray) (n := n) x9 (by rw [k7 5 (by decide)]; exact v6) (by rw [k7 12 (by decide), k6 12 (by decide), v5, hl']) (hsz w3) hll h3n htc (fun v hv => ?_)) ?_
                · obtain ⟨j, hj, rfl⟩ := List.getElem_of_mem hv
                  have hj2 : j < l'.length := by simpa using hj
                  have hj3 : j < (row sg).length := by rw [hVl.len]; exact hj2
                  exact oneCell_real (hVl.at' j (row sg)[j] _ (by simp) (by simp)) (oneCells_row sg hone _ (List.getElem_mem _))
                rw [y9]
                generalize hw4 : w3.setRow w2.heap.size l'.toArray = w4
                have h4s : w4.heap.size = w3.heap.size := by rw [← hw4]; exact setRow_size _ _ _
                have h4o : ∀ r, r ≠ w2.heap.size → w4.heap[r]? = w3.heap[r]? := fun r hr => by rw [← hw4]; exact setRow_other _ _ _ _ hr
                have h4n : w4.heap[w2.heap.size]? = some (.cells l'.toArray et (0, 0)) := by rw [← hw4]; exact setRow_heap _ _ _ _ _ _ h3n
                have hA4 : After ρ st w ρ (st.set bd (.lmap cur)) w4 := hA3.unk hw.glob w2.heap.size hA2.size (hunk _ _ hA2.size) (by omega) (fun r _ hr => h4o r hr) (by rw [← hw4]; rfl) (by rw [← hw4]; rfl)
                refine wpList_nil ?_
                apply wp_region_list
                rw [hR3]
                have a7e : ∀ k, a7.put none undef = a7 ∨ k = 0 := fun _ => .inl rfl
                have ea7n : a7.put none undef = a7 := rfl
                rw [ea7n]
                -- moves
                have e0 : a7.eval (.tmp 0) = .map (some rd) := by rw [k7 0 (by decide), k6 0 (by decide), k5 0 (by decide), k4 0 (by decide), k3 0 (by decide), k2 0 (by decide), k1 0 (by decide)]; exact hI.dst
                have e7 : a7.eval (.tmp 7) = .pointer (some ⟨w.heap.size, 0, none⟩) := by rw [k7 7 (by decide), k6 7 (by decide), k5 7 (by decide), k4 7 (by decide), k3 7 (by decide)]; exact i2
                have e5 : a7.eval (.tmp 5) = .pointer (some ⟨w2.heap.size, 0, none⟩) := by rw [k7 5 (by decide)]; exact v6
                refine stepV (hg p0 (by simp)) (run_move z0) ?_
                rw [u0, e0]
                obtain ⟨a8, ea8, s8, f8, v8, k8⟩ := put_facts (v := .map (some rd)) s7 (show 13 < 16 by decide)
                rw [ea8]
                refine stepV (hg p1 (by simp)) (run_move z1) ?_
                rw [u1, show a8.eval (.tmp 4) = e.key from by rw [k8 4 (by decide)]; exact v7]
                obtain ⟨a9, ea9, s9, f9, v9, k9⟩ := put_facts (v := e.key) s8 (show 14 < 16 by decide)
                rw [ea9]
                refine stepV (hg p2 (by simp)) (run_load' z2 (by rw [k9 5 (by decide), k8 5 (by decide)]; exact e5) (hsz w4) hll (hagg w4) h4n) ?_
                rw [u2]
                obtain ⟨aa, eaa, sa, fa, va, kka⟩ := put_facts (v := .agg l'.toArray) s9 (show 15 < 16 by decide)
                rw [eaa]
                -- the update
                have hisk : isKey .int (.int .i64 ka) = true := by
                  unfold isKey
                  have : ceq .int (.int .i64 ka) (.int .i64 ka) = some (zeq ka ka) := rfl
                  rw [this, (zeq_iff ka ka).2 rfl]; rfl
                obtain ⟨_, es5, clk5, hr5, hA5⟩ := pUpdL_run (updL_eq bd ka (.agg sg) cur (st.set bd (.lmap cur))) hA4.wr (by simp [St.set, PT.get_put_same]) hrd (k' := e.key) (y' := .agg l'.toArray) (by rw [← hka]; exact hvk) (by rw [← hsg, ← hl']; exact hvv) hund hdesc hd0
                  (fun ee => isKey_sound hisk hdesc hd0 hdeep (by rw [← hka]; exact hvk) ee)
                refine stepU (hg p3 (by simp)) (run_update z3 (by rw [kka 13 (by decide), kka 14 (by decide), va, k9 13 (by decide), v8, v9]; exact hr5)) ?_
                rw [u3, show aa.put none undef = aa from rfl]
                refine wpList_nil ?_
                -- the next round
                apply ih
                generalize hw5 : ({ w4 with heap := w4.heap.setIfInBounds rd (.map es5.toArray clk5) } : World) = w5
                rw [hw5] at hA5
                have h5o : ∀ r, r ≠ rd → w5.heap[r]? = w4.heap[r]? := fun r hr => by rw [← hw5]; show (w4.heap.setIfInBounds rd _)[r]? = _; rw [Array.getElem?_setIfInBounds_ne (fun e => hr e.symm)]
                have hchain : ∀ r, r ≠ rd → r < w2.heap.size → w5.heap[r]? = w2.heap[r]? := fun r h1 h2 => by rw [h5o r h1, h4o r (by omega), h3o r h2]
                refine ⟨⟨updL ka (.agg sg) cur, (pl[i].1, pl[i].2.1, 0) :: q, seen.push e.born, clk, (hA4.trans hA5).setset, ?_, ?_, ?_, ?_, ?_, Nat.le_refl _, ?_⟩, ?_, sa, ?_, ?_, ?_⟩
                · exact (updL_mem hzc).1
                · intro x
                  have hS : ((pl[i].1, pl[i].2.1, 0) : Ent) ∈ stripE s := by rw [stripE_map]; exact List.mem_map.2 ⟨_, hps, rfl⟩
                  have huniq : ∀ x ∈ stripE s, x.1 = pl[i].1 → x = (pl[i].1, pl[i].2.1, 0) := fun x hx hx1 => nodup_inj (strip_nodup hnd) hx hS hx1
                  rw [(updL_mem hzc).2 x, hmem x, ← hsg, ← hka]
                  constructor
                  · rintro (rfl | ⟨h1 | ⟨h1, h2⟩, h3⟩)
                    · exact .inl (List.mem_cons_self ..)
                    · exact .inl (List.mem_cons_of_mem _ h1)
                    · refine .inr ⟨h1, fun y hy => ?_⟩
                      rcases List.mem_cons.1 hy with rfl | hy
                      · exact fun e => h3 e.symm
                      · exact h2 y hy
                  · rintro (h1 | ⟨h1, h2⟩)
                    · rcases List.mem_cons.1 h1 with rfl | h1
                      · exact .inl rfl
                      · by_cases hx : x.1 = pl[i].1
                        · exact .inl (huniq x (hqS x h1) hx)
                        · exact .inr ⟨.inl h1, hx⟩
                    · exact .inr ⟨.inr ⟨h1, fun y hy => h2 y (List.mem_cons_of_mem _ hy)⟩, fun e => h2 _ (List.mem_cons_self ..) e.symm⟩
                · intro y hy
                  rcases List.mem_cons.1 hy with rfl | hy
                  · rw [stripE_map]; exact List.mem_map.2 ⟨_, hps, rfl⟩
                  · exact hqS y hy
                · intro j e1 e1' g1 g2 g3
                  rw [contains_push, Bool.or_eq_true] at g3
                  rcases g3 with g3 | g3
                  · exact List.mem_cons_of_mem _ (hseen j e1 e1' g1 g2 g3)
                  · have hb := beq_iff_eq.1 g3
                    have hj : j < es'.length := (List.getElem?_eq_some_iff.1 g2).1
                    have hje : es'[j] = e1' := (List.getElem?_eq_some_iff.1 g2).2
                    have hij : j = i := by
                      have hnb := hst.2.1
                      rw [List.toList_toArray] at hnb
                      have := (List.getElem_inj (i := j) (j := i) (h₀ := by simpa using hj) (h₁ := by simpa using hi) hnb).1 (by simp [hje, hei, hb])
                      exact this
                    subst hij
                    have : e1 = pl[j] := by rw [List.getElem?_eq_getElem hil] at g1; exact (Option.some.inj g1).symm
                    rw [this]
                    exact List.mem_cons_self ..
                · rw [hchain _ (by omega) (by omega)]; exact h2i
                · have := left_shrinks es'.toArray seen e he; omega
                · rw [hchain rs (fun e => hrne e.symm) (by omega)]; exact h2src
                · rw [kka 0 (by decide), k9 0 (by decide), k8 0 (by decide)]; exact e0
                · rw [kka 7 (by decide), k9 7 (by decide), k8 7 (by decide)]; exact e7
                · rw [fa, f9, f8, f7, f6, f5, f4, f3, f2, f1]; exact hI.defers
          -- the start
          refine calls_of_wp hfn hbody ?_
          apply wp_seq
          apply wp_region_list
          rw [hR0]
          generalize ha0 : ({ tmps := #[Value.map (some rd), Value.map (some rs)] ++ Array.replicate (fn.ntmps - (#[Value.map (some rd), Value.map (some rs)] : Array Value).size) undef, defers := [] } : Act) = a0
          have s0 : 16 ≤ a0.tmps.size := by rw [← ha0]; simp; omega
          have g0 : a0.eval (.tmp 0) = .map (some rd) := by rw [← ha0]; simp [Act.eval, Array.getElem?_append]
          have g1 : a0.eval (.tmp 1) = .map (some rs) := by rw [← ha0]; simp [Act.eval, Array.getElem?_append]
          refine stepV (hg o0 (by simp)) (run_move x0) ?_
          rw [y0, g1]
          obtain ⟨a1, ea1, s1, f1, v1, k1⟩ := put_facts (v := .map (some rs)) s0 (show 6 < 16 by decide)
          rw [ea1]
          refine stepV (hg o1 (by simp)) (run_range x1 (by rw [v1]; exact run_range_map w t kt et rs es'.toArray clk hund hms)) ?_
          rw [y1]
          obtain ⟨a2, ea2, s2, f2, v2, k2⟩ := put_facts (v := .pointer (some ⟨w.heap.size, 0, none⟩)) s1 (show 7 < 16 by decide)
          rw [ea2]
          refine wpList_nil ?_
          apply wp_block
          refine wp_loop_rounds ((leftOf es'.toArray #[]).size + 1) (rounds _ _ _ ⟨⟨stripE d, [], #[], clk, ?_, ?_, ?_, ?_, ?_, heap_alloc_new _ _, Nat.le_refl _, by omega⟩, ?_, s2, ?_, v2, ?_⟩)
          · exact hA0.unk hw.glob w.heap.size (Nat.le_refl _) (hunk _ _ (Nat.le_refl _)) (by show _ ≤ (w.heap.push _).size; simp) (fun r hr _ => heap_alloc_old w _ hr) rfl rfl
          · intro x hx; rw [stripE_map] at hx; obtain ⟨e, _, rfl⟩ := List.mem_map.1 hx; rfl
          · intro x; simp
          · intro y hy; cases hy
          · intro i e e' _ _ hc; simp at hc
          · rw [heap_alloc_old w _ hrsl]; exact hms
          · rw [k2 0 (by decide), k1 0 (by decide)]; exact g0
          · rw [f2, f1, ← ha0]
        · cases h
      · cases h
  · cases h
end
end Sim
