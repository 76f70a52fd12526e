import Derived.Test.YtfojoloiahhphaaGreatDoorSimBase
/- Sim, part 2: clean values and rows of cells. -/
namespace Sim
open Go

noncomputable def bsel {α : Type} (b : Bool) (t f : α) : α := Bool.rec f t b
@[simp] theorem bsel_eq {α : Type} (b : Bool) (t f : α) : bsel b t f = if b = true then t else f := by cases b <;> rfl

/-- Clean values. A slice's 'cap' is its capacity if 'grow' is 0; else the capacity is at least that, and 'grow' is the number of cells of an element. 'atleast': an int (of 64 bits) that is not below that. -/
inductive CV where
  | undef
  | bool (b : Bool)
  | int (k : IntKind) (n : Int)
  | str (len val : Nat)
  | nilptr
  | ptr (b : Bp) (off : Nat)
  | nilslice
  | slice (b : Bp) (off len cap grow : Nat)
  | nilmap
  | map (b : Bp)
  | func (fn : Fn) (first captured : Segs CV)
  | nilfunc
  | iface (t : TypeId) (v : CV)
  | niliface
  | agg (s : Segs CV)
  | tuple (s : Segs CV)
  | atleast (n : Nat)

def byteV (n : Nat) : CV := .int .u8 (.ofNat n)

namespace Segs
variable {α : Type}
noncomputable def size (s : Segs α) : Nat := Segs.rec 0 (fun _ _ n => Nat.succ n) (fun k _ _ n => Nat.add k n) s
noncomputable def force {β : Type} (s : Segs α) : (Segs α → β) → β :=
  Segs.rec (motive := fun _ => (Segs α → β) → β) (fun k => k .nil) (fun v _ ih k => ih fun r => k (.one v r))
    (fun n val _ ih k => forceN n fun n => forceN val fun val => ih fun r => k (.bytes n val r)) s
noncomputable def consB (n val : Nat) (r : Segs α) : Segs α :=
  Segs.rec (.bytes n val .nil) (fun v r _ => .bytes n val (.one v r)) (fun m b r _ => bsel (Nat.ble (Nat.add n m) 65536) (.bytes (Nat.add n m) (bCat n val b) r) (.bytes n val (.bytes m b r))) r
noncomputable def take (s : Segs α) : Nat → Segs α :=
  Segs.rec (motive := fun _ => Nat → Segs α) (fun _ => .nil) (fun v _ ih k => bsel (Nat.beq k 0) .nil (.one v (ih (Nat.pred k))))
    (fun n val _ ih k => bsel (Nat.beq k 0) .nil (bsel (Nat.ble k n) (.bytes k (bTake val k) .nil) (.bytes n val (ih (Nat.sub k n))))) s
noncomputable def drop (s : Segs α) : Nat → Segs α :=
  Segs.rec (motive := fun _ => Nat → Segs α) (fun _ => .nil) (fun v r ih k => bsel (Nat.beq k 0) (.one v r) (ih (Nat.pred k)))
    (fun n val r ih k => bsel (Nat.beq k 0) (.bytes n val r) (bsel (Nat.ble n k) (ih (Nat.sub k n)) (.bytes (Nat.sub n k) (bDrop val k) r))) s
noncomputable def app (s t : Segs α) : Segs α := Segs.rec t (fun v _ ih => .one v ih) (fun n val _ ih => consB n val ih) s
/-- the cells from off on, n of them; none: there are not so many. -/
noncomputable def extract (s : Segs α) (off n : Nat) : Option (Segs α) :=
  bsel (Nat.ble (Nat.add off n) s.size) (force ((s.drop off).take n) some) none
noncomputable def write (s : Segs α) (off : Nat) (t : Segs α) : Option (Segs α) :=
  bsel (Nat.ble (Nat.add off t.size) s.size) (force ((s.take off).app (t.app (s.drop (Nat.add off t.size)))) some) none
noncomputable def get (s : Segs α) (u : Nat → α) : Nat → Option α :=
  Segs.rec (motive := fun _ => Nat → Option α) (fun _ => none) (fun v _ ih k => bsel (Nat.beq k 0) (some v) (ih (Nat.pred k)))
    (fun n val _ ih k => bsel (Nat.ble (Nat.succ k) n) (forceN (bTake (bDrop val k) 1) fun b => some (u b)) (ih (Nat.sub k n))) s

/-- The cells, one by one. -/
def cells (u : Nat → α) : Segs α → List α
  | .nil => []
  | .one v r => v :: cells u r
  | .bytes n val r => (ub n val).map u ++ cells u r

theorem force_eq {β : Type} (s : Segs α) : ∀ k : Segs α → β, s.force k = k s := by
  induction s with
  | nil => intro k; rfl
  | one v r ih => intro k; exact ih _
  | bytes n val r ih =>
    intro k
    have e : (Segs.bytes n val r).force k = forceN n fun n => forceN val fun val => r.force fun r => k (.bytes n val r) := rfl
    rw [e, forceN_eq, forceN_eq]; exact ih _

theorem size_nil : (Segs.nil : Segs α).size = 0 := rfl
theorem size_one (v : α) (r : Segs α) : (Segs.one v r).size = r.size + 1 := rfl
theorem size_bytes (n val : Nat) (r : Segs α) : (Segs.bytes n val r).size = n + r.size := rfl
theorem cells_length (u : Nat → α) (s : Segs α) : (s.cells u).length = s.size := by
  induction s with
  | nil => rfl
  | one v r ih => simp [cells, size_one, ih]
  | bytes n val r ih => simp [cells, size_bytes, ih]

theorem cells_consB (u : Nat → α) (n val : Nat) (r : Segs α) : (consB n val r).cells u = (ub n val).map u ++ r.cells u := by
  cases r with
  | nil => rfl
  | one v r => rfl
  | bytes m b r =>
    show (bsel (Nat.ble (n + m) 65536) (Segs.bytes (n + m) (bCat n val b) r) (.bytes n val (.bytes m b r))).cells u = _
    rw [bsel_eq]
    split
    · show (ub (n + m) (bCat n val b)).map u ++ cells u r = _
      rw [bCat_eq, ← ub_append]; simp [cells]
    · rfl

theorem cells_app (u : Nat → α) (s t : Segs α) : (s.app t).cells u = s.cells u ++ t.cells u := by
  induction s with
  | nil => rfl
  | one v r ih => show v :: cells u (r.app t) = _; rw [ih]; rfl
  | bytes n val r ih => show (consB n val (r.app t)).cells u = _; rw [cells_consB, ih]; simp [cells]

theorem take_one (v : α) (r : Segs α) (k : Nat) : (Segs.one v r).take k = if k = 0 then .nil else .one v (r.take (k - 1)) := by
  have e : (Segs.one v r).take k = bsel (Nat.beq k 0) .nil (.one v (r.take (Nat.pred k))) := rfl
  rw [e]; simp only [bsel_eq, Nat.beq_eq, Nat.pred_eq_sub_one]
theorem take_bytes (n val : Nat) (r : Segs α) (k : Nat) :
    (Segs.bytes n val r).take k = if k = 0 then .nil else if k ≤ n then .bytes k (bTake val k) .nil else .bytes n val (r.take (k - n)) := by
  have e : (Segs.bytes n val r).take k = bsel (Nat.beq k 0) .nil (bsel (Nat.ble k n) (.bytes k (bTake val k) .nil) (.bytes n val (r.take (Nat.sub k n)))) := rfl
  rw [e]; simp only [bsel_eq, Nat.beq_eq, Nat.ble_eq, Nat.sub_eq]
theorem drop_one (v : α) (r : Segs α) (k : Nat) : (Segs.one v r).drop k = if k = 0 then .one v r else r.drop (k - 1) := by
  have e : (Segs.one v r).drop k = bsel (Nat.beq k 0) (.one v r) (r.drop (Nat.pred k)) := rfl
  rw [e]; simp only [bsel_eq, Nat.beq_eq, Nat.pred_eq_sub_one]
theorem drop_bytes (n val : Nat) (r : Segs α) (k : Nat) :
    (Segs.bytes n val r).drop k = if k = 0 then .bytes n val r else if n ≤ k then r.drop (k - n) else .bytes (n - k) (bDrop val k) r := by
  have e : (Segs.bytes n val r).drop k = bsel (Nat.beq k 0) (.bytes n val r) (bsel (Nat.ble n k) (r.drop (Nat.sub k n)) (.bytes (Nat.sub n k) (bDrop val k) r)) := rfl
  rw [e]; simp only [bsel_eq, Nat.beq_eq, Nat.ble_eq, Nat.sub_eq]

theorem cells_take (u : Nat → α) (s : Segs α) : ∀ k, (s.take k).cells u = (s.cells u).take k := by
  induction s with
  | nil => intro k; simp [cells]; rfl
  | one v r ih => intro k; rw [take_one]; cases k <;> simp [cells, ih]
  | bytes n val r ih =>
    intro k; rw [take_bytes]
    split
    · subst k; simp [cells]
    · split
      · rename_i h
        simp only [cells, bTake_eq, ub_mod, List.append_nil]
        rw [List.take_append_of_le_length (by simpa using h), ← List.map_take, ub_take n k val h]
      · rename_i h
        simp only [cells]
        rw [List.take_append, List.take_of_length_le (l := (ub n val).map u) (by simp; omega), ih]; simp

theorem cells_drop (u : Nat → α) (s : Segs α) : ∀ k, (s.drop k).cells u = (s.cells u).drop k := by
  induction s with
  | nil => intro k; simp [cells]; rfl
  | one v r ih => intro k; rw [drop_one]; cases k <;> simp [cells, ih]
  | bytes n val r ih =>
    intro k; rw [drop_bytes]
    split
    · subst k; simp
    · split
      · rename_i h
        simp only [cells]
        rw [List.drop_append, List.drop_of_length_le (l := (ub n val).map u) (by simpa using h), ih]; simp
      · rename_i h
        simp only [cells, bDrop_eq]
        rw [List.drop_append_of_le_length (by simp; omega), ← List.map_drop, ub_drop n k val (by omega)]

theorem extract_some {s t : Segs α} {off n : Nat} (h : s.extract off n = some t) :
    off + n ≤ s.size ∧ ∀ u, t.cells u = ((s.cells u).drop off).take n := by
  simp only [extract, bsel_eq, Nat.ble_eq, force_eq] at h
  split at h
  · rename_i hle
    simp only [Option.some.injEq] at h; subst h
    exact ⟨hle, fun u => by rw [cells_take, cells_drop]⟩
  · cases h

theorem write_some {s t s' : Segs α} {off : Nat} (h : s.write off t = some s') :
    off + t.size ≤ s.size ∧ ∀ u, s'.cells u = (s.cells u).take off ++ (t.cells u ++ (s.cells u).drop (off + t.size)) := by
  simp only [write, bsel_eq, Nat.ble_eq, force_eq] at h
  split at h
  · rename_i hle
    simp only [Option.some.injEq] at h; subst h
    exact ⟨hle, fun u => by rw [cells_app, cells_app, cells_take, cells_drop]; rfl⟩
  · cases h

theorem get_eq (u : Nat → α) (s : Segs α) : ∀ k, s.get u k = (s.cells u)[k]? := by
  induction s with
  | nil => intro k; simp [cells]; rfl
  | one v r ih =>
    intro k
    show bsel (Nat.beq k 0) (some v) (r.get u (k - 1)) = _
    cases k <;> simp [cells, ih]
  | bytes n val r ih =>
    intro k
    show bsel (Nat.ble (k + 1) n) (forceN (bTake (bDrop val k) 1) fun b => some (u b)) (r.get u (k - n)) = _
    simp only [bsel_eq, Nat.ble_eq, forceN_eq, cells, bTake_eq, bDrop_eq, Nat.pow_one]
    split
    · rename_i h
      rw [List.getElem?_append_left (by simp; omega), List.getElem?_map, ub_getElem?, if_pos (by omega)]; rfl
    · rename_i h
      rw [List.getElem?_append_right (by simp; omega), ih]; simp
end Segs

abbrev row (s : Segs CV) : List CV := s.cells byteV
end Sim
