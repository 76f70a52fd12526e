import Derived.WalkKit
/- Sim, part 1: paths, tries, packed bytes, rows of cells. Nothing of a program. -/
namespace Sim
open Go

/- Paths: the numbers 0, 1, 2, .. written so that a trie can be walked along them. -/
inductive Up where
  | e
  | o (p : Up)
  | i (p : Up)

noncomputable def Up.dec (p : Up) : Nat := Up.rec 0 (fun _ n => 2 * n + 1) (fun _ n => 2 * n + 2) p
noncomputable def Up.succ (p : Up) : Up := Up.rec (.o .e) (fun q _ => .i q) (fun _ r => .o r) p
noncomputable def Up.encF (fuel : Nat) : Nat → Up :=
  Nat.rec (motive := fun _ => Nat → Up) (fun _ => .e)
    (fun _ ih n => Bool.rec (Bool.rec (.o (ih (Nat.div n 2))) (.i (ih (Nat.sub (Nat.div n 2) 1))) (Nat.beq (Nat.mod n 2) 0)) .e (Nat.beq n 0)) fuel
noncomputable def Up.enc (n : Nat) : Up := Up.encF (n + 1) n

theorem Up.dec_e : Up.dec .e = 0 := rfl
theorem Up.dec_o (p : Up) : Up.dec (.o p) = 2 * p.dec + 1 := rfl
theorem Up.dec_i (p : Up) : Up.dec (.i p) = 2 * p.dec + 2 := rfl

theorem Up.dec_inj : ∀ p q : Up, p.dec = q.dec → p = q := by
  intro p
  induction p with
  | e => intro q h; cases q <;> simp [Up.dec_e, Up.dec_o, Up.dec_i] at h ⊢
  | o p ih =>
    intro q h
    cases q with
    | e => simp [Up.dec_e, Up.dec_o] at h
    | o q => rw [Up.dec_o, Up.dec_o] at h; rw [ih q (by omega)]
    | i q => rw [Up.dec_o, Up.dec_i] at h; omega
  | i p ih =>
    intro q h
    cases q with
    | e => simp [Up.dec_e, Up.dec_i] at h
    | o q => rw [Up.dec_o, Up.dec_i] at h; omega
    | i q => rw [Up.dec_i, Up.dec_i] at h; rw [ih q (by omega)]

theorem Up.dec_succ (p : Up) : p.succ.dec = p.dec + 1 := by
  induction p with
  | e => rfl
  | o p _ => rfl
  | i p ih => show 2 * (Up.succ p).dec + 1 = 2 * p.dec + 2 + 1; rw [ih]; omega

theorem Up.encF_succ (f n : Nat) : Up.encF (f + 1) n = if n = 0 then .e else if n % 2 = 0 then .i (Up.encF f (n / 2 - 1)) else .o (Up.encF f (n / 2)) := by
  show (Bool.rec (motive := fun _ => Up) (Bool.rec (motive := fun _ => Up) (Up.o (Up.encF f (n / 2))) (Up.i (Up.encF f (n / 2 - 1))) (Nat.beq (n % 2) 0)) Up.e (Nat.beq n 0)) = _
  by_cases h : n = 0
  · simp [h]
  · have h1 : Nat.beq n 0 = false := by cases n <;> simp_all [Nat.beq]
    rw [h1, if_neg h]
    by_cases h2 : n % 2 = 0
    · rw [h2]; simp
    · have h3 : Nat.beq (n % 2) 0 = false := by cases hh : n % 2 <;> simp_all [Nat.beq]
      simp only [h3, if_neg h2]

theorem Up.dec_encF : ∀ (f n : Nat), n < f → (Up.encF f n).dec = n := by
  intro f
  induction f with
  | zero => intro n h; omega
  | succ f ih =>
    intro n h
    rw [Up.encF_succ]
    split
    · subst n; rfl
    · split
      · rw [Up.dec_i, ih _ (by omega)]; omega
      · rw [Up.dec_o, ih _ (by omega)]; omega

theorem Up.dec_enc (n : Nat) : (Up.enc n).dec = n := Up.dec_encF _ _ (Nat.lt_succ_self n)
theorem Up.enc_inj {m n : Nat} (h : Up.enc m = Up.enc n) : m = n := by rw [← Up.dec_enc m, h, Up.dec_enc]


/-- Forcing: what is handed on is written out. -/
noncomputable def forceN {β : Type} (n : Nat) (k : Nat → β) : β := Nat.rec (k 0) (fun p _ => k (Nat.succ p)) n
@[simp] theorem forceN_eq {β : Type} (n : Nat) (k : Nat → β) : forceN n k = k n := by cases n <;> rfl
noncomputable def forceZ {β : Type} (n : Int) (k : Int → β) : β := Int.rec (fun a => forceN a fun a => k (.ofNat a)) (fun a => forceN a fun a => k (.negSucc a)) n
@[simp] theorem forceZ_eq {β : Type} (n : Int) (k : Int → β) : forceZ n k = k n := by cases n <;> simp [forceZ]


/- Tries. -/
inductive UT (α : Type) where
  | nil
  | node (v : Option α) (l r : UT α)

namespace UT
variable {α : Type}
noncomputable def get (t : UT α) : Up → Option α :=
  UT.rec (motive := fun _ => Up → Option α) (fun _ => none) (fun v _ _ gl gr p => Up.rec v (fun q _ => gl q) (fun q _ => gr q) p) t
noncomputable def force {β : Type} (t : UT α) (k : UT α → β) : β := UT.rec (k .nil) (fun v l r _ _ => k (.node v l r)) t
noncomputable def lone (x : Option α) (p : Up) : UT α := Up.rec (.node x .nil .nil) (fun _ t => force t fun t => .node none t .nil) (fun _ t => force t fun t => .node none .nil t) p
noncomputable def put (t : UT α) : Up → Option α → UT α :=
  UT.rec (motive := fun _ => Up → Option α → UT α) (fun p x => lone x p)
    (fun v l r pl pr p x => Up.rec (.node x l r) (fun q _ => force (pl q x) fun t => .node v t r) (fun q _ => force (pr q x) fun t => .node v l t) p) t

@[simp] theorem force_eq {β : Type} (t : UT α) (k : UT α → β) : force t k = k t := by cases t <;> rfl
@[simp] theorem get_nil (p : Up) : (UT.nil : UT α).get p = none := rfl
theorem get_e (v : Option α) (l r : UT α) : (node v l r).get .e = v := rfl
theorem get_o (v : Option α) (l r : UT α) (q : Up) : (node v l r).get (.o q) = l.get q := rfl
theorem get_i (v : Option α) (l r : UT α) (q : Up) : (node v l r).get (.i q) = r.get q := rfl
theorem put_e (v : Option α) (l r : UT α) (x : Option α) : (node v l r).put .e x = node x l r := rfl
theorem put_o (v : Option α) (l r : UT α) (q : Up) (x : Option α) : (node v l r).put (.o q) x = node v (l.put q x) r := force_eq (l.put q x) (fun t => node v t r)
theorem put_i (v : Option α) (l r : UT α) (q : Up) (x : Option α) : (node v l r).put (.i q) x = node v l (r.put q x) := force_eq (r.put q x) (fun t => node v l t)
theorem lone_o (x : Option α) (q : Up) : lone x (.o q) = node none (lone x q) .nil := force_eq (lone x q) (fun t => node none t .nil)
theorem lone_i (x : Option α) (q : Up) : lone x (.i q) = node none .nil (lone x q) := force_eq (lone x q) (fun t => node none .nil t)
theorem put_nil (p : Up) (x : Option α) : (UT.nil : UT α).put p x = lone x p := rfl

theorem get_lone_same (x : Option α) : ∀ p : Up, (lone x p).get p = x := by
  intro p
  induction p with
  | e => rfl
  | o p ih => rw [lone_o, get_o, ih]
  | i p ih => rw [lone_i, get_i, ih]
theorem get_lone_ne (x : Option α) : ∀ p q : Up, q ≠ p → (lone x p).get q = none := by
  intro p
  induction p with
  | e => intro q h; cases q <;> first | exact absurd rfl h | rfl
  | o p ih => intro q h; rw [lone_o]; cases q with
    | e => rfl
    | o q => rw [get_o]; exact ih q (fun e => h (by rw [e]))
    | i q => rfl
  | i p ih => intro q h; rw [lone_i]; cases q with
    | e => rfl
    | o q => rfl
    | i q => rw [get_i]; exact ih q (fun e => h (by rw [e]))
theorem get_put_same (t : UT α) : ∀ (p : Up) (x : Option α), (t.put p x).get p = x := by
  induction t with
  | nil => intro p x; rw [put_nil, get_lone_same]
  | node v l r ihl ihr => intro p x; cases p with
    | e => rfl
    | o q => rw [put_o, get_o, ihl]
    | i q => rw [put_i, get_i, ihr]
theorem get_put_ne (t : UT α) : ∀ (p q : Up) (x : Option α), q ≠ p → (t.put p x).get q = t.get q := by
  induction t with
  | nil => intro p q x h; rw [put_nil, get_lone_ne _ _ _ h]; rfl
  | node v l r ihl ihr => intro p q x h; cases p with
    | e => rw [put_e]; cases q <;> first | exact absurd rfl h | rfl
    | o p => rw [put_o]; cases q with
      | e => rfl
      | o q => rw [get_o, get_o]; exact ihl p q x (fun e => h (by rw [e]))
      | i q => rfl
    | i p => rw [put_i]; cases q with
      | e => rfl
      | o q => rfl
      | i q => rw [get_i, get_i]; exact ihr p q x (fun e => h (by rw [e]))
theorem get_put (t : UT α) (p q : Up) (x : Option α) [Decidable (q = p)] : (t.put p x).get q = if q = p then x else t.get q := by
  split
  · subst q; exact get_put_same t p x
  · exact get_put_ne t p q x (by assumption)
end UT



/- Tables of fixed depth: eight fields a level, no recursion. -/
inductive D8 where
  | d0 | d1 | d2 | d3 | d4 | d5 | d6 | d7
noncomputable def D8.nat (d : D8) : Nat := D8.rec 0 1 2 3 4 5 6 7 d
noncomputable def D8.sucK {β : Type} (d : D8) (k : D8 → β) (ov : β) : β := D8.rec (motive := fun _ => (D8 → β) → β → β) (fun k _ => k .d1) (fun k _ => k .d2) (fun k _ => k .d3) (fun k _ => k .d4) (fun k _ => k .d5) (fun k _ => k .d6) (fun k _ => k .d7) (fun _ ov => ov) d k ov
noncomputable def bsel8 {α : Type} (b : Bool) (t f : α) : α := Bool.rec f t b
noncomputable def D8.of (n : Nat) : D8 := bsel8 (Nat.beq n 0) .d0 (bsel8 (Nat.beq n 1) .d1 (bsel8 (Nat.beq n 2) .d2 (bsel8 (Nat.beq n 3) .d3 (bsel8 (Nat.beq n 4) .d4 (bsel8 (Nat.beq n 5) .d5 (bsel8 (Nat.beq n 6) .d6 (.d7)))))))
theorem D8.nat_inj {a b : D8} (h : a.nat = b.nat) : a = b := by cases a <;> cases b <;> first | rfl | (exact absurd h (by decide))
theorem D8.nat_lt (a : D8) : a.nat < 8 := by cases a <;> decide
theorem D8.nat_of {n : Nat} (h : n < 8) : (D8.of n).nat = n := by
  have h' : n = 0 ∨ n = 1 ∨ n = 2 ∨ n = 3 ∨ n = 4 ∨ n = 5 ∨ n = 6 ∨ n = 7 := by omega
  rcases h' with rfl | rfl | rfl | rfl | rfl | rfl | rfl | rfl <;> rfl
structure S8 (α : Type) where
  (a0 a1 a2 a3 a4 a5 a6 a7 : α)
section
variable {α β : Type}
noncomputable def S8.get0 (s : S8 α) : α := S8.rec (motive := fun _ => α) (fun a _ _ _ _ _ _ _ => a) s
noncomputable def S8.get1 (s : S8 α) : α := S8.rec (motive := fun _ => α) (fun _ a _ _ _ _ _ _ => a) s
noncomputable def S8.get2 (s : S8 α) : α := S8.rec (motive := fun _ => α) (fun _ _ a _ _ _ _ _ => a) s
noncomputable def S8.get3 (s : S8 α) : α := S8.rec (motive := fun _ => α) (fun _ _ _ a _ _ _ _ => a) s
noncomputable def S8.get4 (s : S8 α) : α := S8.rec (motive := fun _ => α) (fun _ _ _ _ a _ _ _ => a) s
noncomputable def S8.get5 (s : S8 α) : α := S8.rec (motive := fun _ => α) (fun _ _ _ _ _ a _ _ => a) s
noncomputable def S8.get6 (s : S8 α) : α := S8.rec (motive := fun _ => α) (fun _ _ _ _ _ _ a _ => a) s
noncomputable def S8.get7 (s : S8 α) : α := S8.rec (motive := fun _ => α) (fun _ _ _ _ _ _ _ a => a) s
noncomputable def S8.get (s : S8 α) (d : D8) : α := D8.rec (motive := fun _ => S8 α → α) S8.get0 S8.get1 S8.get2 S8.get3 S8.get4 S8.get5 S8.get6 S8.get7 d s
noncomputable def S8.putK0 (x : α) (k : S8 α → β) (s : S8 α) : β := S8.rec (motive := fun _ => α → (S8 α → β) → β) (fun _ a1 a2 a3 a4 a5 a6 a7 x k => k ⟨x, a1, a2, a3, a4, a5, a6, a7⟩) s x k
noncomputable def S8.putK1 (x : α) (k : S8 α → β) (s : S8 α) : β := S8.rec (motive := fun _ => α → (S8 α → β) → β) (fun a0 _ a2 a3 a4 a5 a6 a7 x k => k ⟨a0, x, a2, a3, a4, a5, a6, a7⟩) s x k
noncomputable def S8.putK2 (x : α) (k : S8 α → β) (s : S8 α) : β := S8.rec (motive := fun _ => α → (S8 α → β) → β) (fun a0 a1 _ a3 a4 a5 a6 a7 x k => k ⟨a0, a1, x, a3, a4, a5, a6, a7⟩) s x k
noncomputable def S8.putK3 (x : α) (k : S8 α → β) (s : S8 α) : β := S8.rec (motive := fun _ => α → (S8 α → β) → β) (fun a0 a1 a2 _ a4 a5 a6 a7 x k => k ⟨a0, a1, a2, x, a4, a5, a6, a7⟩) s x k
noncomputable def S8.putK4 (x : α) (k : S8 α → β) (s : S8 α) : β := S8.rec (motive := fun _ => α → (S8 α → β) → β) (fun a0 a1 a2 a3 _ a5 a6 a7 x k => k ⟨a0, a1, a2, a3, x, a5, a6, a7⟩) s x k
noncomputable def S8.putK5 (x : α) (k : S8 α → β) (s : S8 α) : β := S8.rec (motive := fun _ => α → (S8 α → β) → β) (fun a0 a1 a2 a3 a4 _ a6 a7 x k => k ⟨a0, a1, a2, a3, a4, x, a6, a7⟩) s x k
noncomputable def S8.putK6 (x : α) (k : S8 α → β) (s : S8 α) : β := S8.rec (motive := fun _ => α → (S8 α → β) → β) (fun a0 a1 a2 a3 a4 a5 _ a7 x k => k ⟨a0, a1, a2, a3, a4, a5, x, a7⟩) s x k
noncomputable def S8.putK7 (x : α) (k : S8 α → β) (s : S8 α) : β := S8.rec (motive := fun _ => α → (S8 α → β) → β) (fun a0 a1 a2 a3 a4 a5 a6 _ x k => k ⟨a0, a1, a2, a3, a4, a5, a6, x⟩) s x k
noncomputable def S8.putK (s : S8 α) (d : D8) (x : α) (k : S8 α → β) : β := D8.rec (motive := fun _ => α → (S8 α → β) → S8 α → β) S8.putK0 S8.putK1 S8.putK2 S8.putK3 S8.putK4 S8.putK5 S8.putK6 S8.putK7 d x k s
noncomputable def S8.put (s : S8 α) (d : D8) (x : α) : S8 α := s.putK d x fun s => s
theorem S8.putK_eq (s : S8 α) (d : D8) (x : α) (k : S8 α → β) : s.putK d x k = k (s.put d x) := by cases s; cases d <;> rfl
theorem S8.get_put_same (s : S8 α) (d : D8) (x : α) : (s.put d x).get d = x := by cases s; cases d <;> rfl
theorem S8.get_put_ne (s : S8 α) (d e : D8) (x : α) (h : e ≠ d) : (s.put d x).get e = s.get e := by
  cases s; cases d <;> cases e <;> first | rfl | exact absurd rfl h
def S8.all (x : α) : S8 α := ⟨x, x, x, x, x, x, x, x⟩
theorem S8.get_all (x : α) (d : D8) : (S8.all x).get d = x := by cases d <;> rfl
end


abbrev T4 (α : Type) := S8 (S8 (S8 (S8 (Option α))))
noncomputable def T4.nil {α : Type} : T4 α := S8.all (S8.all (S8.all (S8.all none)))
noncomputable def T4.get {α : Type} (T : T4 α) (a b c d : D8) : Option α := S8.get (S8.get (S8.get (S8.get T a) b) c) d
noncomputable def T4.putK {α β : Type} (T : T4 α) (a b c d : D8) (x : Option α) (k : T4 α → β) : β :=
  S8.putK (S8.get (S8.get (S8.get T a) b) c) d x fun z => S8.putK (S8.get (S8.get T a) b) c z fun z => S8.putK (S8.get T a) b z fun z => S8.putK T a z k
noncomputable def T4.put {α : Type} (T : T4 α) (a b c d : D8) (x : Option α) : T4 α := T.putK a b c d x fun T => T
theorem T4.putK_eq {α β : Type} (T : T4 α) (a b c d : D8) (x : Option α) (k : T4 α → β) : T4.putK T a b c d x k = k (T4.put T a b c d x) := by
  unfold T4.put T4.putK
  simp only [S8.putK_eq]
theorem T4.put_eq {α : Type} (T : T4 α) (a b c d : D8) (x : Option α) : T4.put T a b c d x = S8.put T a (S8.put (S8.get T a) b (S8.put (S8.get (S8.get T a) b) c (S8.put (S8.get (S8.get (S8.get T a) b) c) d x))) := by
  unfold T4.put T4.putK
  simp only [S8.putK_eq]
theorem T4.get_nil {α : Type} (a b c d : D8) : T4.get (T4.nil : T4 α) a b c d = none := by unfold T4.get T4.nil; simp only [S8.get_all]
theorem T4.get_put_same {α : Type} (T : T4 α) (a b c d : D8) (x : Option α) : T4.get (T4.put T a b c d x) a b c d = x := by
  rw [T4.put_eq]; unfold T4.get; simp only [S8.get_put_same]
theorem T4.get_put_ne {α : Type} (T : T4 α) (a b c d a' b' c' d' : D8) (x : Option α) (h : ¬ (a' = a ∧ b' = b ∧ c' = c ∧ d' = d)) : T4.get (T4.put T a b c d x) a' b' c' d' = T4.get T a' b' c' d' := by
  rw [T4.put_eq]; unfold T4.get
  by_cases h1 : a' = a
  · subst h1; rw [S8.get_put_same]
    by_cases h2 : b' = b
    · subst h2; rw [S8.get_put_same]
      by_cases h3 : c' = c
      · subst h3; rw [S8.get_put_same]
        rw [S8.get_put_ne _ _ _ _ (fun e => h ⟨rfl, rfl, rfl, e⟩)]
      · rw [S8.get_put_ne _ _ _ _ h3]
    · rw [S8.get_put_ne _ _ _ _ h2]
  · rw [S8.get_put_ne _ _ _ _ h1]

/-- Paths: four digits, and above them a path of the old kind. -/
structure Bp where
  h : Up
  (a b c d : D8)
noncomputable def Bp.e : Bp := ⟨.e, .d0, .d0, .d0, .d0⟩
noncomputable def Bp.dec (p : Bp) : Nat := Bp.rec (fun h a b c d => Nat.add (Nat.mul 4096 h.dec) (Nat.add (Nat.mul 512 a.nat) (Nat.add (Nat.mul 64 b.nat) (Nat.add (Nat.mul 8 c.nat) d.nat)))) p
theorem Bp.dec_eq (p : Bp) : p.dec = 4096 * p.h.dec + (512 * p.a.nat + (64 * p.b.nat + (8 * p.c.nat + p.d.nat))) := rfl
noncomputable def Bp.succ (p : Bp) : Bp := Bp.rec (fun h a b c d => d.sucK (fun d => ⟨h, a, b, c, d⟩) (c.sucK (fun c => ⟨h, a, b, c, .d0⟩) (b.sucK (fun b => ⟨h, a, b, .d0, .d0⟩) (a.sucK (fun a => ⟨h, a, .d0, .d0, .d0⟩) ⟨h.succ, .d0, .d0, .d0, .d0⟩)))) p
noncomputable def Bp.enc (n : Nat) : Bp := ⟨.enc (Nat.div n 4096), .of (Nat.mod (Nat.div n 512) 8), .of (Nat.mod (Nat.div n 64) 8), .of (Nat.mod (Nat.div n 8) 8), .of (Nat.mod n 8)⟩
theorem Bp.dec_inj : ∀ p q : Bp, p.dec = q.dec → p = q := by
  rintro ⟨h, a, b, c, d⟩ ⟨h', a', b', c', d'⟩ e
  rw [Bp.dec_eq, Bp.dec_eq] at e
  dsimp only at e
  have := a.nat_lt; have := b.nat_lt; have := c.nat_lt; have := d.nat_lt
  have := a'.nat_lt; have := b'.nat_lt; have := c'.nat_lt; have := d'.nat_lt
  have e1 := Up.dec_inj h h' (by omega)
  have e2 := D8.nat_inj (a := a) (b := a') (by omega)
  have e3 := D8.nat_inj (a := b) (b := b') (by omega)
  have e4 := D8.nat_inj (a := c) (b := c') (by omega)
  have e5 := D8.nat_inj (a := d) (b := d') (by omega)
  rw [e1, e2, e3, e4, e5]
theorem D8.sucK_spec {β : Type} (d : D8) (k : D8 → β) (ov : β) : (∃ e : D8, e.nat = d.nat + 1 ∧ d.sucK k ov = k e) ∨ (d.nat = 7 ∧ d.sucK k ov = ov) := by
  cases d
  · exact .inl ⟨.d1, rfl, rfl⟩
  · exact .inl ⟨.d2, rfl, rfl⟩
  · exact .inl ⟨.d3, rfl, rfl⟩
  · exact .inl ⟨.d4, rfl, rfl⟩
  · exact .inl ⟨.d5, rfl, rfl⟩
  · exact .inl ⟨.d6, rfl, rfl⟩
  · exact .inl ⟨.d7, rfl, rfl⟩
  · exact .inr ⟨rfl, rfl⟩
theorem Bp.dec_succ (p : Bp) : p.succ.dec = p.dec + 1 := by
  obtain ⟨h, a, b, c, d⟩ := p
  have e : Bp.succ ⟨h, a, b, c, d⟩ = d.sucK (fun d => ⟨h, a, b, c, d⟩) (c.sucK (fun c => ⟨h, a, b, c, .d0⟩) (b.sucK (fun b => ⟨h, a, b, .d0, .d0⟩) (a.sucK (fun a => ⟨h, a, .d0, .d0, .d0⟩) ⟨h.succ, .d0, .d0, .d0, .d0⟩))) := rfl
  have z : D8.d0.nat = 0 := rfl
  rw [e]
  rcases D8.sucK_spec d (fun d => (⟨h, a, b, c, d⟩ : Bp)) (c.sucK (fun c => ⟨h, a, b, c, .d0⟩) (b.sucK (fun b => ⟨h, a, b, .d0, .d0⟩) (a.sucK (fun a => ⟨h, a, .d0, .d0, .d0⟩) ⟨h.succ, .d0, .d0, .d0, .d0⟩))) with ⟨x, h1, h2⟩ | ⟨h1, h2⟩
  · rw [h2, Bp.dec_eq, Bp.dec_eq]; dsimp only; omega
  rw [h2]
  rcases D8.sucK_spec c (fun c => (⟨h, a, b, c, .d0⟩ : Bp)) (b.sucK (fun b => ⟨h, a, b, .d0, .d0⟩) (a.sucK (fun a => ⟨h, a, .d0, .d0, .d0⟩) ⟨h.succ, .d0, .d0, .d0, .d0⟩)) with ⟨x, h3, h4⟩ | ⟨h3, h4⟩
  · rw [h4, Bp.dec_eq, Bp.dec_eq]; dsimp only; omega
  rw [h4]
  rcases D8.sucK_spec b (fun b => (⟨h, a, b, .d0, .d0⟩ : Bp)) (a.sucK (fun a => ⟨h, a, .d0, .d0, .d0⟩) ⟨h.succ, .d0, .d0, .d0, .d0⟩) with ⟨x, h5, h6⟩ | ⟨h5, h6⟩
  · rw [h6, Bp.dec_eq, Bp.dec_eq]; dsimp only; omega
  rw [h6]
  rcases D8.sucK_spec a (fun a => (⟨h, a, .d0, .d0, .d0⟩ : Bp)) ⟨h.succ, .d0, .d0, .d0, .d0⟩ with ⟨x, h7, h8⟩ | ⟨h7, h8⟩
  · rw [h8, Bp.dec_eq, Bp.dec_eq]; dsimp only; omega
  rw [h8, Bp.dec_eq, Bp.dec_eq]; dsimp only; rw [Up.dec_succ]; omega
theorem Bp.dec_enc (n : Nat) : (Bp.enc n).dec = n := by
  rw [Bp.dec_eq]
  unfold Bp.enc
  dsimp only
  rw [Up.dec_enc, D8.nat_of, D8.nat_of, D8.nat_of, D8.nat_of]
  · show 4096 * (n / 4096) + (512 * (n / 512 % 8) + (64 * (n / 64 % 8) + (8 * (n / 8 % 8) + n % 8))) = n
    omega
  all_goals exact Nat.mod_lt _ (by decide)
theorem Bp.enc_inj {m n : Nat} (h : Bp.enc m = Bp.enc n) : m = n := by rw [← Bp.dec_enc m, h, Bp.dec_enc]
noncomputable def forceB {β : Type} (p : Bp) (k : Bp → β) : β := Bp.rec (motive := fun _ => (Bp → β) → β) (fun h a b c d k => k ⟨h, a, b, c, d⟩) p k
theorem forceB_eq {β : Type} (p : Bp) (k : Bp → β) : forceB p k = k p := rfl

abbrev PT (α : Type) : Type := UT (T4 α)
namespace PT
variable {α : Type}
noncomputable def nil : PT α := UT.nil
noncomputable def get (t : PT α) (p : Bp) : Option α :=
  Bp.rec (motive := fun _ => PT α → Option α) (fun h a b c d t => Option.rec (motive := fun _ => D8 → D8 → D8 → D8 → Option α) (fun _ _ _ _ => none) (fun T a b c d => T4.get T a b c d) (UT.get t h) a b c d) p t
noncomputable def orNil (x : Option (T4 α)) : T4 α := Option.rec T4.nil (fun T => T) x
noncomputable def put (t : PT α) (p : Bp) (x : Option α) : PT α :=
  Bp.rec (motive := fun _ => PT α → Option α → PT α) (fun h a b c d t x => T4.putK (orNil (UT.get t h)) a b c d x fun T => UT.put t h (some T)) p t x
noncomputable def force {β : Type} (t : PT α) (k : PT α → β) : β := UT.force t k
@[simp] theorem force_eq {β : Type} (t : PT α) (k : PT α → β) : force t k = k t := UT.force_eq t k
theorem get_eq (t : PT α) (p : Bp) : t.get p = T4.get (orNil (UT.get t p.h)) p.a p.b p.c p.d := by
  obtain ⟨h, a, b, c, d⟩ := p
  show Option.rec (motive := fun _ => D8 → D8 → D8 → D8 → Option α) (fun _ _ _ _ => none) (fun T a b c d => T4.get T a b c d) (UT.get t h) a b c d = _
  cases hh : UT.get t h with
  | none => exact (T4.get_nil a b c d).symm
  | some T => rfl
theorem put_eq (t : PT α) (p : Bp) (x : Option α) : t.put p x = UT.put t p.h (some (T4.put (orNil (UT.get t p.h)) p.a p.b p.c p.d x)) := by
  obtain ⟨h, a, b, c, d⟩ := p
  show T4.putK (orNil (UT.get t h)) a b c d x (fun T => UT.put t h (some T)) = _
  rw [T4.putK_eq]
@[simp] theorem get_nil (p : Bp) : (PT.nil : PT α).get p = none := by rw [get_eq]; exact T4.get_nil _ _ _ _
theorem get_put_same (t : PT α) (p : Bp) (x : Option α) : (t.put p x).get p = x := by
  rw [get_eq, put_eq, UT.get_put_same]; exact T4.get_put_same _ _ _ _ _ _
theorem get_put_ne (t : PT α) (p q : Bp) (x : Option α) (h : q ≠ p) : (t.put p x).get q = t.get q := by
  rw [get_eq, get_eq, put_eq]
  by_cases hh : q.h = p.h
  · rw [hh, UT.get_put_same]
    show T4.get (T4.put _ _ _ _ _ _) _ _ _ _ = _
    rw [T4.get_put_ne]
    rintro ⟨e1, e2, e3, e4⟩
    apply h
    obtain ⟨h1, a1, b1, c1, x1⟩ := p
    obtain ⟨h2, a2, b2, c2, x2⟩ := q
    dsimp only at *
    rw [hh, e1, e2, e3, e4]
  · rw [UT.get_put_ne _ _ _ _ hh]
theorem get_put (t : PT α) (p q : Bp) (x : Option α) [Decidable (q = p)] : (t.put p x).get q = if q = p then x else t.get q := by
  split
  · subst q; exact get_put_same t p x
  · exact get_put_ne t p q x (by assumption)
end PT

/- Packed bytes: the first byte lowest. -/
def ub : Nat → Nat → List Nat
  | 0, _ => []
  | n + 1, v => v % 256 :: ub n (v / 256)

@[simp] theorem ub_length (n : Nat) : ∀ v, (ub n v).length = n := by
  induction n with
  | zero => intro v; rfl
  | succ n ih => intro v; simp [ub, ih]
theorem ub_lt (n : Nat) : ∀ v x, x ∈ ub n v → x < 256 := by
  induction n with
  | zero => intro v x h; simp [ub] at h
  | succ n ih =>
    intro v x h
    simp only [ub, List.mem_cons] at h
    rcases h with h | h
    · omega
    · exact ih _ _ h
theorem ub_mod (n : Nat) : ∀ v, ub n (v % 256 ^ n) = ub n v := by
  induction n with
  | zero => intro v; rfl
  | succ n ih =>
    intro v
    simp only [ub]
    rw [Nat.mod_mod_of_dvd v (show 256 ∣ 256 ^ (n + 1) from ⟨256 ^ n, by rw [Nat.pow_succ, Nat.mul_comm]⟩)]
    congr 1
    rw [show (256 : Nat) ^ (n + 1) = 256 * 256 ^ n by rw [Nat.pow_succ, Nat.mul_comm], Nat.mod_mul_right_div_self, ih]
theorem ub_take (n : Nat) : ∀ (k v : Nat), k ≤ n → (ub n v).take k = ub k v := by
  induction n with
  | zero => intro k v h; have : k = 0 := by omega
            subst this; rfl
  | succ n ih =>
    intro k v h
    cases k with
    | zero => rfl
    | succ k => simp only [ub, List.take_succ_cons]; rw [ih k _ (by omega)]
theorem ub_drop (n : Nat) : ∀ (k v : Nat), k ≤ n → (ub n v).drop k = ub (n - k) (v / 256 ^ k) := by
  induction n with
  | zero => intro k v h; have : k = 0 := by omega
            subst this; simp [ub]
  | succ n ih =>
    intro k v h
    cases k with
    | zero => simp
    | succ k =>
      simp only [ub, List.drop_succ_cons]
      rw [ih k _ (by omega), Nat.succ_sub_succ, Nat.div_div_eq_div_mul, Nat.pow_succ, Nat.mul_comm]
theorem ub_append (n : Nat) : ∀ (m a b : Nat), ub n a ++ ub m b = ub (n + m) (a % 256 ^ n + b * 256 ^ n) := by
  induction n with
  | zero => intro m a b; simp [ub, Nat.mod_one]
  | succ n ih =>
    intro m a b
    have e : (256 : Nat) ^ (n + 1) = 256 * 256 ^ n := by rw [Nat.pow_succ, Nat.mul_comm]
    rw [show n + 1 + m = (n + m) + 1 by omega]
    simp only [ub, List.cons_append]
    rw [ih m (a / 256) b]
    congr 1
    · rw [e, Nat.mul_left_comm b, Nat.add_mul_mod_self_left, Nat.mod_mod_of_dvd a ⟨256 ^ n, rfl⟩]
    · congr 1
      rw [e, Nat.mul_left_comm b, Nat.add_mul_div_left _ _ (by decide), Nat.mod_mul_right_div_self]
theorem ub_zero (n : Nat) : ub n 0 = List.replicate n 0 := by
  induction n with
  | zero => rfl
  | succ n ih => simp [ub, ih, List.replicate_succ]
theorem ub_inj (n : Nat) : ∀ a b, ub n a = ub n b → a % 256 ^ n = b % 256 ^ n := by
  induction n with
  | zero => intro a b _; simp [Nat.mod_one]
  | succ n ih =>
    intro a b h
    simp only [ub, List.cons.injEq] at h
    have := ih _ _ h.2
    have e : (256 : Nat) ^ (n + 1) = 256 * 256 ^ n := by rw [Nat.pow_succ, Nat.mul_comm]
    rw [e, Nat.mod_mul, Nat.mod_mul, h.1, this]
theorem ub_getElem? (n : Nat) : ∀ (v i : Nat), (ub n v)[i]? = if i < n then some (v / 256 ^ i % 256) else none := by
  induction n with
  | zero => intro v i; simp [ub]
  | succ n ih =>
    intro v i
    cases i with
    | zero => simp [ub]
    | succ i =>
      simp only [ub, List.getElem?_cons_succ]
      rw [ih]
      simp only [Nat.add_lt_add_iff_right, Nat.div_div_eq_div_mul, Nat.pow_succ, Nat.mul_comm]

theorem pow8 (k : Nat) : (2 : Nat) ^ (8 * k) = 256 ^ k := by rw [Nat.pow_mul]
/-- k bytes off the front. -/
noncomputable def bDrop (v k : Nat) : Nat := Nat.shiftRight v (Nat.mul 8 k)
/-- the first k bytes. -/
noncomputable def bTake (v k : Nat) : Nat := Nat.mod v (Nat.pow 2 (Nat.mul 8 k))
noncomputable def bCat (n a b : Nat) : Nat := Nat.add (bTake a n) (Nat.shiftLeft b (Nat.mul 8 n))
theorem bDrop_eq (v k : Nat) : bDrop v k = v / 256 ^ k := by show v >>> (8 * k) = _; rw [Nat.shiftRight_eq_div_pow, pow8]
theorem bTake_eq (v k : Nat) : bTake v k = v % 256 ^ k := by show v % 2 ^ (8 * k) = _; rw [pow8]
theorem bCat_eq (n a b : Nat) : bCat n a b = a % 256 ^ n + b * 256 ^ n := by show bTake a n + b <<< (8 * n) = _; rw [bTake_eq, Nat.shiftLeft_eq, pow8]

/- Rows of cells: single ones, and bytes that are packed. -/
inductive Segs (α : Type) where
  | nil
  | one (v : α) (r : Segs α)
  | bytes (n val : Nat) (r : Segs α)
end Sim
