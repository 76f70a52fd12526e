import Derived.Test.YtfojoloiahhphaaGreatDoorSimRow
/- Sim, part 2b: the cells of package variables that the runs count on (by the seat's numbers; a list that is empty serves too). -/
namespace Sim
open Go
/-- errors.errorType: the handle of the type error. -/
def globs : List (Nat × Value) := [(0, .iface 314 (.agg #[.pointer (some ⟨3, 90, none⟩)]))]
end Sim

/- Sim, part 3: when a clean memory stands for a world. -/
namespace Sim
open Go

inductive Blk where
  | cells (s : Segs CV) (t : TypeId) (grow : Bool)
  | map (es : List (CV × CV × Nat)) (clock : Nat)
  | lmap (es : List (CV × CV × Nat))

structure St where
  mem : PT Blk
  next : Bp

/-- Where a clean block lies: the number of the block, how many cells it has. -/
abbrev Ren := Bp → Option (Nat × Nat)

def strB (n v : Nat) : ByteArray := ⟨((ub n v).map UInt8.ofNat).toArray⟩
@[simp] theorem strB_size (n v : Nat) : (strB n v).size = n := by simp [strB, ByteArray.size]

inductive VR (ρ : Ren) : CV → Value → Prop where
  | undef : VR ρ .undef (.tuple #[])
  | bool (b : Bool) : VR ρ (.bool b) (.bool b)
  | int (k : IntKind) (n : Int) : VR ρ (.int k n) (.int k n)
  | str (n v : Nat) : VR ρ (.str n v) (.string (strB n v))
  | nilptr : VR ρ .nilptr (.pointer none)
  | ptr (b : Bp) (off r sz : Nat) (h : ρ b = some (r, sz)) : VR ρ (.ptr b off) (.pointer (some ⟨r, off, none⟩))
  | nilslice : VR ρ .nilslice (.slice none 0 0)
  | slice (b : Bp) (off len cap r sz : Nat) (h : ρ b = some (r, sz)) : VR ρ (.slice b off len cap 0) (.slice (some ⟨r, off, none⟩) len cap)
  | sliceG (b : Bp) (off off' len cap cap' grow r sz : Nat) (h : ρ b = some (r, sz)) (hg : 0 < grow) (hl : len ≤ cap) (hc : cap ≤ cap') (ho : 0 < cap → off' = off)
      (hs : off' + cap' * grow ≤ sz) : VR ρ (.slice b off len cap grow) (.slice (some ⟨r, off', none⟩) len cap')
  | nilmap : VR ρ .nilmap (.map none)
  | map (b : Bp) (r sz : Nat) (h : ρ b = some (r, sz)) : VR ρ (.map b) (.map (some r))
  | func (fn : Fn) (f c : Segs CV) (f' c' : List Value) (hf : (row f).length = f'.length) (hc : (row c).length = c'.length)
      (h1 : ∀ (i : Nat) (v : CV) (v' : Value), (row f)[i]? = some v → f'[i]? = some v' → VR ρ v v')
      (h2 : ∀ (i : Nat) (v : CV) (v' : Value), (row c)[i]? = some v → c'[i]? = some v' → VR ρ v v') : VR ρ (.func fn f c) (.func fn f'.toArray c'.toArray)
  | nilfunc : VR ρ .nilfunc .nilFunc
  | iface (t : TypeId) (v : CV) (v' : Value) (h : VR ρ v v') : VR ρ (.iface t v) (.iface t v')
  | niliface : VR ρ .niliface .nilIface
  | agg (s : Segs CV) (l : List Value) (hl : (row s).length = l.length)
      (h : ∀ (i : Nat) (v : CV) (v' : Value), (row s)[i]? = some v → l[i]? = some v' → VR ρ v v') : VR ρ (.agg s) (.agg l.toArray)
  | tuple (s : Segs CV) (l : List Value) (hl : (row s).length = l.length)
      (h : ∀ (i : Nat) (v : CV) (v' : Value), (row s)[i]? = some v → l[i]? = some v' → VR ρ v v') : VR ρ (.tuple s) (.tuple l.toArray)
  | atleast (n : Nat) (m : Int) (h : (n : Int) ≤ m) : VR ρ (.atleast n) (.int .i64 m)

/-- Rows, value by value. -/
structure VRs (ρ : Ren) (l : List CV) (l' : List Value) : Prop where
  len : l.length = l'.length
  at' : ∀ (i : Nat) (v : CV) (v' : Value), l[i]? = some v → l'[i]? = some v' → VR ρ v v'

def Ren.le (ρ ρ' : Ren) : Prop := ∀ b r, ρ b = some r → ρ' b = some r

theorem VR.mono {ρ ρ' : Ren} (hle : ρ.le ρ') {v : CV} {v' : Value} (h : VR ρ v v') : VR ρ' v v' := by
  induction h with
  | undef => exact .undef
  | bool b => exact .bool b
  | int k n => exact .int k n
  | str n v => exact .str n v
  | nilptr => exact .nilptr
  | ptr b off r sz h => exact .ptr b off r sz (hle _ _ h)
  | nilslice => exact .nilslice
  | slice b off len cap r sz h => exact .slice b off len cap r sz (hle _ _ h)
  | sliceG b off off' len cap cap' grow r sz h hg hl hc ho hs => exact .sliceG b off off' len cap cap' grow r sz (hle _ _ h) hg hl hc ho hs
  | nilmap => exact .nilmap
  | map b r sz h => exact .map b r sz (hle _ _ h)
  | func fn f c f' c' hf hc h1 h2 ih1 ih2 => exact .func fn f c f' c' hf hc ih1 ih2
  | nilfunc => exact .nilfunc
  | iface t v v' _ ih => exact .iface t v v' ih
  | niliface => exact .niliface
  | agg s l hl _ ih => exact .agg s l hl ih
  | tuple s l hl _ ih => exact .tuple s l hl ih
  | atleast n m h => exact .atleast n m h

theorem VRs.mono {ρ ρ' : Ren} (hle : ρ.le ρ') {l : List CV} {l' : List Value} (h : VRs ρ l l') : VRs ρ' l l' :=
  ⟨h.len, fun i v v' a b => (h.at' i v v' a b).mono hle⟩

theorem VRs.nil (ρ : Ren) : VRs ρ [] [] := ⟨rfl, fun i v v' h => by simp at h⟩
theorem VRs.cons {ρ : Ren} {v : CV} {v' : Value} {l : List CV} {l' : List Value} (h : VR ρ v v') (t : VRs ρ l l') : VRs ρ (v :: l) (v' :: l') :=
  ⟨by simp [t.len], fun i x x' a b => by
    cases i with
    | zero => simp at a b; subst a; subst b; exact h
    | succ i => exact t.at' i x x' (by simpa using a) (by simpa using b)⟩
theorem VRs.inv {ρ : Ren} {v : CV} {l : List CV} {l' : List Value} (h : VRs ρ (v :: l) l') : ∃ v' t', l' = v' :: t' ∧ VR ρ v v' ∧ VRs ρ l t' := by
  cases l' with
  | nil => have := h.len; simp at this
  | cons v' t' =>
    exact ⟨v', t', rfl, h.at' 0 v v' rfl rfl, ⟨by have := h.len; simpa using this, fun i x x' a b => h.at' (i + 1) x x' (by simpa using a) (by simpa using b)⟩⟩
theorem VRs.app {ρ : Ren} {l m : List CV} {l' m' : List Value} (h : VRs ρ l l') (t : VRs ρ m m') : VRs ρ (l ++ m) (l' ++ m') := by
  induction l generalizing l' with
  | nil => have : l' = [] := by have := h.len; simpa using this.symm
           subst this; exact t
  | cons v l ih => obtain ⟨v', t', rfl, h1, h2⟩ := h.inv; exact VRs.cons h1 (ih h2)
theorem VRs.take {ρ : Ren} {l : List CV} {l' : List Value} (h : VRs ρ l l') (n : Nat) : VRs ρ (l.take n) (l'.take n) :=
  ⟨by simp [h.len], fun i v v' a b => by
    rw [List.getElem?_take] at a b
    split at a
    · rename_i hi; rw [if_pos hi] at b; exact h.at' i v v' a b
    · cases a⟩
theorem VRs.drop {ρ : Ren} {l : List CV} {l' : List Value} (h : VRs ρ l l') (n : Nat) : VRs ρ (l.drop n) (l'.drop n) :=
  ⟨by simp [h.len], fun i v v' a b => by rw [List.getElem?_drop] at a b; exact h.at' _ v v' a b⟩
theorem VRs.bytes (ρ : Ren) (l : List Nat) : VRs ρ (l.map byteV) (l.map fun n : Nat => Value.int .u8 (n : Int)) := by
  induction l with
  | nil => exact VRs.nil ρ
  | cons a l ih => exact VRs.cons (.int _ _) ih

/-- A clean block and a real one. -/
inductive BR (ρ : Ren) : Blk → Obj → Nat → Prop where
  | cells (s : Segs CV) (t : TypeId) (g : Bool) (c : Array Value) (lo hi : Nat) (hlen : s.size ≤ c.size)
      (hc : VRs ρ (row s) (c.toList.take s.size)) (hf : ∀ k, k < c.size → ¬ (lo ≤ k ∧ k < hi)) (hg : g = false → ∀ k, ¬ (lo ≤ k ∧ k < hi)) : BR ρ (.cells s t g) (.cells c t (lo, hi)) c.size
  | map (es : List (CV × CV × Nat)) (clock : Nat) (es' : List MapEntry) (hl : es.length = es'.length)
      (h : ∀ (i : Nat) (e : CV × CV × Nat) (e' : MapEntry), es[i]? = some e → es'[i]? = some e' → VR ρ e.1 e'.key ∧ VR ρ e.2.1 e'.val ∧ e.2.2 = e'.born) (sz : Nat) :
      BR ρ (.map es clock) (.map es'.toArray clock) sz
  | lmap (es l : List (CV × CV × Nat)) (clock : Nat) (es' : List MapEntry) (hp : l.Perm es) (hi : ∀ e ∈ es, ∃ n : Int, e.1 = .int .i64 n) (hn : (es.map (·.1)).Nodup) (hs : Go.MapKept.Stamped es'.toArray clock) (hl : l.length = es'.length)
      (h : ∀ (i : Nat) (e : CV × CV × Nat) (e' : MapEntry), l[i]? = some e → es'[i]? = some e' → VR ρ e.1 e'.key ∧ VR ρ e.2.1 e'.val) (sz : Nat) : BR ρ (.lmap es) (.map es'.toArray clock) sz

theorem BR.mono {ρ ρ' : Ren} (hle : ρ.le ρ') {b : Blk} {o : Obj} {n : Nat} (h : BR ρ b o n) : BR ρ' b o n := by
  cases h with
  | cells s t g c lo hi hlen hc hf hg => exact .cells s t g c lo hi hlen (hc.mono hle) hf hg
  | map es clock es' hl h =>
    exact .map es clock es' hl (fun i e e' a b => let ⟨x, y, z⟩ := h i e e' a b; ⟨x.mono hle, y.mono hle, z⟩) _
  | lmap es l clock es' hp hi hn hs hl h => exact .lmap es l clock es' hp hi hn hs hl (fun i e e' a b => let ⟨x, y⟩ := h i e e' a b; ⟨x.mono hle, y.mono hle⟩) _

/-- The package variables lie where they lie, and no block is one of them. -/
def Glob (ρ : Ren) (st : St) (w : World) : Prop := ∀ r v, (r, v) ∈ globs → w.cell? ⟨r, 0, none⟩ = some v ∧ ∀ b blk sz, st.mem.get b = some blk → ρ b ≠ some (r, sz)
theorem cell_of_heap {w w' : World} {r : Nat} (h : w'.heap[r]? = w.heap[r]?) : w'.cell? ⟨r, 0, none⟩ = w.cell? ⟨r, 0, none⟩ := by
  simp only [World.cell?, h]
theorem lt_of_cell {w : World} {r : Nat} {v : Value} (h : w.cell? ⟨r, 0, none⟩ = some v) : r < w.heap.size := by
  apply Decidable.byContradiction
  intro hn
  have e : w.heap[r]? = none := Array.getElem?_eq_none (by omega)
  simp [World.cell?, e] at h
theorem Glob.keep {ρ ρ' : Ren} {st st' : St} {w w' : World} (h : Glob ρ st w) (ho : ∀ b blk r sz, st'.mem.get b = some blk → ρ' b = some (r, sz) → (∃ b0 blk0 sz0, st.mem.get b0 = some blk0 ∧ ρ b0 = some (r, sz0)) ∨ w.heap.size ≤ r)
    (hk : ∀ r : Nat, r < w.heap.size → (∀ b blk sz, st.mem.get b = some blk → ρ b ≠ some (r, sz)) → w'.heap[r]? = w.heap[r]?) : Glob ρ' st' w' := by
  intro r v hm
  obtain ⟨h1, h2⟩ := h r v hm
  have hlt := lt_of_cell h1
  refine ⟨by rw [cell_of_heap (hk r hlt h2)]; exact h1, fun b blk sz g1 g2 => ?_⟩
  rcases ho b blk r sz g1 g2 with ⟨b0, blk0, sz0, k1, k2⟩ | k
  · exact h2 b0 blk0 sz0 k1 k2
  · omega
theorem Glob.sub {ρ : Ren} {st st' : St} {w : World} (h : Glob ρ st w) (ho : ∀ b blk r sz, st'.mem.get b = some blk → ρ b = some (r, sz) → ∃ blk0, st.mem.get b = some blk0) : Glob ρ st' w :=
  h.keep (fun b blk r sz h1 h2 => let ⟨k, hk⟩ := ho b blk r sz h1 h2; .inl ⟨b, k, sz, hk, h2⟩) (fun _ _ _ => rfl)

structure WR (ρ : Ren) (st : St) (w : World) : Prop where
  at' : ∀ b blk r sz, st.mem.get b = some blk → ρ b = some (r, sz) → ∃ o, w.heap[r]? = some o ∧ BR ρ blk o sz
  inj : ∀ b b' blk blk' r sz sz', st.mem.get b = some blk → st.mem.get b' = some blk' → ρ b = some (r, sz) → ρ b' = some (r, sz') → b = b'
  fresh : ∀ b x, ρ b = some x → b.dec < st.next.dec
  glob : Glob ρ st w

/-- What has become of the world: what the clean memory does not speak of is as it was. -/
structure After (ρ : Ren) (st : St) (w : World) (ρ' : Ren) (st' : St) (w' : World) : Prop where
  wr : WR ρ' st' w'
  ext : ρ.le ρ'
  dom : ∀ b, b.dec < st.next.dec → ρ b = none → ρ' b = none
  next : st.next.dec ≤ st'.next.dec
  origin : ∀ b blk r sz, st'.mem.get b = some blk → ρ' b = some (r, sz) → (∃ b0 blk0 sz0, st.mem.get b0 = some blk0 ∧ ρ b0 = some (r, sz0)) ∨ w.heap.size ≤ r
  kept : ∀ r : Nat, r < w.heap.size → (∀ b blk sz, st.mem.get b = some blk → ρ b ≠ some (r, sz)) → w'.heap[r]? = w.heap[r]?
  size : w.heap.size ≤ w'.heap.size
  os : w'.os = w.os
  output : w'.output = w.output

theorem After.refl {ρ : Ren} {st : St} {w : World} (h : WR ρ st w) : After ρ st w ρ st w :=
  ⟨h, fun _ _ h => h, fun _ _ h => h, Nat.le_refl _, fun b blk _ sz h1 h2 => .inl ⟨b, blk, sz, h1, h2⟩, fun _ _ _ => rfl, Nat.le_refl _, rfl, rfl⟩

theorem After.trans {ρ ρ1 ρ2 : Ren} {st st1 st2 : St} {w w1 w2 : World} (a : After ρ st w ρ1 st1 w1) (b : After ρ1 st1 w1 ρ2 st2 w2) :
    After ρ st w ρ2 st2 w2 where
  wr := b.wr
  ext := fun _ _ h => b.ext _ _ (a.ext _ _ h)
  dom := fun q hq h => b.dom q (Nat.lt_of_lt_of_le hq a.next) (a.dom q hq h)
  next := Nat.le_trans a.next b.next
  origin := fun x blk r sz h1 h2 => by
    rcases b.origin x blk r sz h1 h2 with ⟨b0, blk0, sz0, h3, h4⟩ | h3
    · exact a.origin b0 blk0 r sz0 h3 h4
    · exact .inr (Nat.le_trans a.size h3)
  kept := fun r hr hn => by
    rw [b.kept r (Nat.lt_of_lt_of_le hr a.size), a.kept r hr hn]
    intro x blk sz h1 h2
    rcases a.origin x blk r sz h1 h2 with ⟨b0, blk0, sz0, h3, h4⟩ | h3
    · exact hn b0 blk0 sz0 h3 h4
    · omega
  size := Nat.le_trans a.size b.size
  os := b.os.trans a.os
  output := b.output.trans a.output

/-- A draw changes nothing that is spoken of. -/
theorem WR.heap_eq {ρ : Ren} {st : St} {w w' : World} (h : WR ρ st w) (e : w'.heap = w.heap) : WR ρ st w' :=
  ⟨fun b blk r sz hb hr => by rw [e]; exact h.at' b blk r sz hb hr, h.inj, h.fresh, h.glob.keep (fun b blk r sz h1 h2 => .inl ⟨b, blk, sz, h1, h2⟩) (fun r _ _ => by rw [e])⟩

theorem After.draw {ρ : Ren} {st : St} {w : World} (h : WR ρ st w) (d : Nat) : After ρ st w ρ st { w with drawn := d } :=
  ⟨h.heap_eq rfl, fun _ _ h => h, fun _ _ h => h, Nat.le_refl _, fun b blk _ sz h1 h2 => .inl ⟨b, blk, sz, h1, h2⟩, fun _ _ _ => rfl, Nat.le_refl _, rfl, rfl⟩

noncomputable def Ren.set (ρ : Ren) (b : Bp) (x : Nat × Nat) : Ren := fun q => if b.dec = q.dec then some x else ρ q
theorem Ren.set_same (ρ : Ren) (b : Bp) (x : Nat × Nat) : ρ.set b x b = some x := by simp [Ren.set]
theorem Ren.set_ne (ρ : Ren) (b q : Bp) (x : Nat × Nat) (h : q ≠ b) : ρ.set b x q = ρ q := by
  unfold Ren.set; rw [if_neg]; intro e; exact h (Bp.dec_inj _ _ e.symm)

/-- The clean memory with a new block. -/
noncomputable def St.new (st : St) (blk : Blk) : St := ⟨st.mem.put st.next (some blk), st.next.succ⟩

theorem After.new {ρ : Ren} {st : St} {w : World} (h : WR ρ st w) {blk : Blk} {o : Obj} {sz : Nat} (hb : BR (ρ.set st.next (w.heap.size, sz)) blk o sz) :
    After ρ st w (ρ.set st.next (w.heap.size, sz)) (st.new blk) { w with heap := w.heap.push o } ∧ ρ.set st.next (w.heap.size, sz) st.next = some (w.heap.size, sz) := by
  have hne : ∀ b x, ρ b = some x → b ≠ st.next := fun b x hx e => by have := h.fresh b x hx; rw [e] at this; omega
  have hle : ρ.le (ρ.set st.next (w.heap.size, sz)) := fun b _ hr => by rw [Ren.set_ne _ _ _ _ (hne b _ hr)]; exact hr
  have hlt : ∀ b blk r s, st.mem.get b = some blk → ρ b = some (r, s) → r < w.heap.size := fun b blk r s h1 h2 => by
    obtain ⟨o', e2, _⟩ := h.at' b blk r s h1 h2
    exact (Array.getElem?_eq_some_iff.1 e2).1
  have hold : ∀ b blk', b ≠ st.next → (st.new blk).mem.get b = some blk' → st.mem.get b = some blk' := fun b blk' hb h1 => by
    simpa [St.new, PT.get_put_ne _ _ _ _ hb] using h1
  have hor : ∀ b blk' r s, (st.new blk).mem.get b = some blk' → ρ.set st.next (w.heap.size, sz) b = some (r, s) → (∃ b0 blk0 sz0, st.mem.get b0 = some blk0 ∧ ρ b0 = some (r, sz0)) ∨ w.heap.size ≤ r := fun b blk' r s h1 h2 => by
    by_cases e : b = st.next
    · subst e; rw [Ren.set_same] at h2; cases h2; exact .inr (Nat.le_refl _)
    · rw [Ren.set_ne _ _ _ _ e] at h2; exact .inl ⟨b, blk', s, hold b blk' e h1, h2⟩
  have hkp : ∀ r : Nat, r < w.heap.size → (∀ b blk sz, st.mem.get b = some blk → ρ b ≠ some (r, sz)) → (w.heap.push o)[r]? = w.heap[r]? := fun r hr _ => by
    rw [Array.getElem?_push, if_neg (by omega)]
  refine ⟨⟨⟨fun b blk' r s h1 h2 => ?_, fun b b' blk1 blk2 r s s' h1 h2 h3 h4 => ?_, fun b x hx => ?_, h.glob.keep hor hkp⟩, hle, fun q hq hn => by rw [Ren.set_ne _ _ _ _ (fun e => by rw [e] at hq; omega)]; exact hn, ?_, hor, hkp, by simp, rfl, rfl⟩, Ren.set_same _ _ _⟩
  · by_cases e : b = st.next
    · subst e
      simp only [St.new, PT.get_put_same, Option.some.injEq] at h1; subst h1
      rw [Ren.set_same] at h2; cases h2
      exact ⟨o, by simp, hb⟩
    · rw [Ren.set_ne _ _ _ _ e] at h2
      obtain ⟨o', e2, e3⟩ := h.at' b blk' r s (hold b blk' e h1) h2
      refine ⟨o', ?_, e3.mono hle⟩
      have := (Array.getElem?_eq_some_iff.1 e2).1
      rw [Array.getElem?_push, if_neg (by omega)]; exact e2
  · by_cases e : b = st.next
    · by_cases e' : b' = st.next
      · rw [e, e']
      · rw [e, Ren.set_same] at h3; cases h3
        rw [Ren.set_ne _ _ _ _ e'] at h4
        have := hlt b' blk2 _ _ (hold b' blk2 e' h2) h4; omega
    · by_cases e' : b' = st.next
      · rw [e', Ren.set_same] at h4; cases h4
        rw [Ren.set_ne _ _ _ _ e] at h3
        have := hlt b blk1 _ _ (hold b blk1 e h1) h3; omega
      · rw [Ren.set_ne _ _ _ _ e] at h3; rw [Ren.set_ne _ _ _ _ e'] at h4
        exact h.inj b b' blk1 blk2 r s s' (hold b blk1 e h1) (hold b' blk2 e' h2) h3 h4
  · show b.dec < st.next.succ.dec
    rw [Bp.dec_succ]
    by_cases e : b = st.next
    · subst e; omega
    · rw [Ren.set_ne _ _ _ _ e] at hx; have := h.fresh b x hx; omega
  · show st.next.dec ≤ st.next.succ.dec
    rw [Bp.dec_succ]; omega

/-- The clean memory with a block turned. -/
noncomputable def St.set (st : St) (b : Bp) (blk : Blk) : St := ⟨st.mem.put b (some blk), st.next⟩

theorem After.set {ρ : Ren} {st : St} {w w' : World} (h : WR ρ st w) {b : Bp} {blk0 blk : Blk} {r sz : Nat} {o : Obj} (h0 : st.mem.get b = some blk0) (hr : ρ b = some (r, sz))
    (ho : w'.heap[r]? = some o) (hb : BR ρ blk o sz) (hk : ∀ k, k ≠ r → w'.heap[k]? = w.heap[k]?) (hs : w'.heap.size = w.heap.size) (hos : w'.os = w.os) (hout : w'.output = w.output) :
    After ρ st w ρ (st.set b blk) w' where
  wr := {
    at' := fun q blk' r' s' h1 e1 => by
      by_cases e : q = b
      · subst e
        simp only [St.set, PT.get_put_same, Option.some.injEq] at h1; subst h1
        rw [hr] at e1; cases e1
        exact ⟨o, ho, hb⟩
      · simp only [St.set, PT.get_put_ne _ _ _ _ e] at h1
        obtain ⟨o', e2, e3⟩ := h.at' q blk' r' s' h1 e1
        refine ⟨o', ?_, e3⟩
        rw [hk r' (fun e' => e (h.inj q b blk' blk0 r s' sz h1 h0 (by rw [e1, e']) hr))]; exact e2
    inj := fun q q' blk1 blk2 r1 s1 s2 h1 h2 h3 h4 => by
      have g : ∀ q blk', (st.set b blk).mem.get q = some blk' → ∃ x, st.mem.get q = some x := fun q blk' hq => by
        by_cases e : q = b
        · subst e; exact ⟨_, h0⟩
        · simp only [St.set, PT.get_put_ne _ _ _ _ e] at hq; exact ⟨_, hq⟩
      obtain ⟨x1, g1⟩ := g q blk1 h1
      obtain ⟨x2, g2⟩ := g q' blk2 h2
      exact h.inj q q' x1 x2 r1 s1 s2 g1 g2 h3 h4
    fresh := h.fresh
    glob := h.glob.keep (fun q blk' r1 s1 h1 h2 => by
      by_cases e : q = b
      · subst e; exact .inl ⟨q, blk0, s1, h0, h2⟩
      · simp only [St.set, PT.get_put_ne _ _ _ _ e] at h1; exact .inl ⟨q, blk', s1, h1, h2⟩) (fun k _ hn => hk k (fun e => hn b blk0 sz h0 (by rw [hr, e]))) }
  ext := fun _ _ h => h
  dom := fun _ _ h => h
  next := Nat.le_refl _
  origin := fun q blk' r1 s1 h1 h2 => by
    by_cases e : q = b
    · subst e; exact .inl ⟨q, blk0, s1, h0, h2⟩
    · simp only [St.set, PT.get_put_ne _ _ _ _ e] at h1; exact .inl ⟨q, blk', s1, h1, h2⟩
  kept := fun k _ hn => hk k (fun e => hn b blk0 sz h0 (by rw [hr, e]))
  size := by omega
  os := hos
  output := hout

/-- The clean memory with a block gone, and another one in its place, which may lie where that one lay. -/
noncomputable def St.move (st : St) (b : Bp) (blk : Blk) : St := ⟨(st.mem.put b none).put st.next (some blk), st.next.succ⟩

theorem After.move {ρ : Ren} {st : St} {w w' : World} (h : WR ρ st w) {b : Bp} {blk0 blk : Blk} {r sz : Nat} {o : Obj} (h0 : st.mem.get b = some blk0) (hr : ρ b = some (r, sz))
    (ho : w'.heap[r]? = some o) (hb : BR (ρ.set st.next (r, sz)) blk o sz) (hk : ∀ k, k ≠ r → w'.heap[k]? = w.heap[k]?) (hs : w'.heap.size = w.heap.size) (hos : w'.os = w.os) (hout : w'.output = w.output) :
    After ρ st w (ρ.set st.next (r, sz)) (st.move b blk) w' := by
  have hne : ∀ q x, ρ q = some x → q ≠ st.next := fun q x hx e => by have := h.fresh q x hx; rw [e] at this; omega
  have hle : ρ.le (ρ.set st.next (r, sz)) := fun q x hx => by rw [Ren.set_ne _ _ _ _ (hne q x hx)]; exact hx
  have hbn : b ≠ st.next := hne b _ hr
  have hold : ∀ q blk', q ≠ st.next → (st.move b blk).mem.get q = some blk' → q ≠ b ∧ st.mem.get q = some blk' := fun q blk' hq h1 => by
    simp only [St.move, PT.get_put_ne _ _ _ _ hq] at h1
    by_cases e : q = b
    · subst e; rw [PT.get_put_same] at h1; cases h1
    · rw [PT.get_put_ne _ _ _ _ e] at h1; exact ⟨e, h1⟩
  have hor : ∀ q blk' r1 s, (st.move b blk).mem.get q = some blk' → ρ.set st.next (r, sz) q = some (r1, s) → (∃ b0 blk0 sz0, st.mem.get b0 = some blk0 ∧ ρ b0 = some (r1, sz0)) ∨ w.heap.size ≤ r1 := fun q blk' r1 s h1 h2 => by
    by_cases e : q = st.next
    · subst e; rw [Ren.set_same] at h2; cases h2; exact .inl ⟨b, blk0, sz, h0, hr⟩
    · rw [Ren.set_ne _ _ _ _ e] at h2; obtain ⟨_, h1⟩ := hold q blk' e h1; exact .inl ⟨q, blk', s, h1, h2⟩
  have hkp : ∀ k : Nat, k < w.heap.size → (∀ b blk sz, st.mem.get b = some blk → ρ b ≠ some (k, sz)) → w'.heap[k]? = w.heap[k]? := fun k _ hn => hk k (fun e => hn b blk0 sz h0 (by rw [hr, e]))
  refine ⟨⟨fun q blk' r' s' h1 e1 => ?_, fun q q' blk1 blk2 r1 s s' h1 h2 h3 h4 => ?_, fun q x hx => ?_, h.glob.keep hor hkp⟩, hle, fun q hq hn => by rw [Ren.set_ne _ _ _ _ (fun e => by rw [e] at hq; omega)]; exact hn, ?_, hor, hkp, by omega, hos, hout⟩
  · by_cases e : q = st.next
    · subst e
      simp only [St.move, PT.get_put_same, Option.some.injEq] at h1; subst h1
      rw [Ren.set_same] at e1; cases e1
      exact ⟨o, ho, hb⟩
    · obtain ⟨eb, h1⟩ := hold q blk' e h1
      rw [Ren.set_ne _ _ _ _ e] at e1
      obtain ⟨o', e2, e3⟩ := h.at' q blk' r' s' h1 e1
      refine ⟨o', ?_, e3.mono hle⟩
      rw [hk r' (fun e' => eb (h.inj q b blk' blk0 r s' sz h1 h0 (by rw [e1, e']) hr))]; exact e2
  · by_cases e : q = st.next
    · by_cases e' : q' = st.next
      · rw [e, e']
      · rw [e, Ren.set_same] at h3; cases h3
        rw [Ren.set_ne _ _ _ _ e'] at h4
        obtain ⟨eb, h2⟩ := hold q' blk2 e' h2
        exact absurd (h.inj q' b blk2 blk0 r s' sz h2 h0 h4 hr) eb
    · by_cases e' : q' = st.next
      · rw [e', Ren.set_same] at h4; cases h4
        rw [Ren.set_ne _ _ _ _ e] at h3
        obtain ⟨eb, h1⟩ := hold q blk1 e h1
        exact absurd (h.inj q b blk1 blk0 r s sz h1 h0 h3 hr) eb
      · rw [Ren.set_ne _ _ _ _ e] at h3; rw [Ren.set_ne _ _ _ _ e'] at h4
        exact h.inj q q' blk1 blk2 r1 s s' (hold q blk1 e h1).2 (hold q' blk2 e' h2).2 h3 h4
  · show q.dec < st.next.succ.dec
    rw [Bp.dec_succ]
    by_cases e : q = st.next
    · subst e; omega
    · rw [Ren.set_ne _ _ _ _ e] at hx; have := h.fresh q x hx; omega
  · show st.next.dec ≤ st.next.succ.dec
    rw [Bp.dec_succ]; omega
end Sim
