import Derived.Test.YtfojoloiahhphaaGreatDoorSimRel
/- Sim, part 4: numbers and strings, as fast as the kernel reckons them. -/
namespace Sim
open Go

noncomputable def kidx (k : IntKind) : Nat := IntKind.rec 0 1 2 3 4 5 6 7 k
noncomputable def kbeq (j k : IntKind) : Bool := Nat.beq (kidx j) (kidx k)
theorem kbeq_iff (j k : IntKind) : kbeq j k = true ↔ j = k := by cases j <;> cases k <;> simp [kbeq, kidx]
noncomputable def ktop (k : IntKind) : Nat := IntKind.rec 127 32767 2147483647 9223372036854775807 255 65535 4294967295 18446744073709551615 k
noncomputable def ksig (k : IntKind) : Bool := IntKind.rec true true true true false false false false k

theorem wrap_nat (k : IntKind) (m : Nat) (h : m ≤ ktop k) : k.wrap (m : Int) = m := by
  cases k <;> simp only [ktop] at h <;> simp only [IntKind.wrap, IntKind.bits, IntKind.signed] <;> simp <;> omega
theorem wrap_neg (k : IntKind) (m : Nat) (hs : ksig k = true) (h : m ≤ ktop k) : k.wrap (Int.negSucc m) = Int.negSucc m := by
  cases k <;> simp only [ksig, Bool.false_eq_true] at hs <;> simp only [ktop] at h <;> simp only [IntKind.wrap, IntKind.bits, IntKind.signed] <;> simp <;> omega

noncomputable def fwrap (k : IntKind) (n : Int) : Int :=
  Int.rec (fun m => bsel (Nat.ble m (ktop k)) (.ofNat m) (k.wrap (.ofNat m))) (fun m => bsel (Bool.and (ksig k) (Nat.ble m (ktop k))) (.negSucc m) (k.wrap (.negSucc m))) n
theorem fwrap_eq (k : IntKind) (n : Int) : fwrap k n = k.wrap n := by
  cases n with
  | ofNat m =>
    show bsel _ _ _ = _
    rw [bsel_eq]; split
    · rename_i h; exact (wrap_nat k m (by simpa using h)).symm
    · rfl
  | negSucc m =>
    show bsel _ _ _ = _
    rw [bsel_eq]; split
    · rename_i h
      have h' : ksig k = true ∧ Nat.ble m (ktop k) = true := by simpa using h
      exact (wrap_neg k m h'.1 (by simpa using h'.2)).symm
    · rfl

noncomputable def zeq (x y : Int) : Bool :=
  Int.rec (fun a => Int.rec (fun b => Nat.beq a b) (fun _ => false) y) (fun a => Int.rec (fun _ => false) (fun b => Nat.beq a b) y) x
noncomputable def zlt (x y : Int) : Bool :=
  Int.rec (fun a => Int.rec (fun b => Nat.ble (Nat.succ a) b) (fun _ => false) y) (fun a => Int.rec (fun _ => true) (fun b => Nat.ble (Nat.succ b) a) y) x
theorem zeq_iff (x y : Int) : zeq x y = true ↔ x = y := by
  cases x with
  | ofNat a => cases y with
    | ofNat b => show Nat.beq a b = true ↔ _; rw [Nat.beq_eq]; exact ⟨fun h => by rw [h], fun h => by injection h⟩
    | negSucc b => show false = true ↔ _; simp
  | negSucc a => cases y with
    | ofNat b => show false = true ↔ _; simp
    | negSucc b => show Nat.beq a b = true ↔ _; rw [Nat.beq_eq]; exact ⟨fun h => by rw [h], fun h => by injection h⟩
theorem zeq_eq (x y : Int) : zeq x y = (x == y) := by
  rw [Bool.eq_iff_iff, zeq_iff, beq_iff_eq]
theorem zlt_iff (x y : Int) : zlt x y = true ↔ x < y := by
  cases x with
  | ofNat a => cases y with
    | ofNat b => show Nat.ble (a + 1) b = true ↔ _; rw [Nat.ble_eq]; simp; omega
    | negSucc b => show false = true ↔ _; simp; omega
  | negSucc a => cases y with
    | ofNat b => show true = true ↔ _; simp; omega
    | negSucc b => show Nat.ble (b + 1) a = true ↔ _; rw [Nat.ble_eq]; omega
theorem zlt_eq (x y : Int) : zlt x y = decide (x < y) := by
  rw [Bool.eq_iff_iff, zlt_iff, decide_eq_true_eq]

/-- Bits: two numbers from 0 to the kind's top by the kernel's own 'and', 'or', 'xor'. -/
noncomputable def bitsSlow (op : BinOp) (k : IntKind) (x y : Int) : Option Int :=
  match op with
  | .and => some (k.wrap (BitVec.ofInt k.bits x &&& BitVec.ofInt k.bits y).toNat)
  | .or => some (k.wrap (BitVec.ofInt k.bits x ||| BitVec.ofInt k.bits y).toNat)
  | .xor => some (k.wrap (BitVec.ofInt k.bits x ^^^ BitVec.ofInt k.bits y).toNat)
  | .andNot => some (k.wrap (BitVec.ofInt k.bits x &&& ~~~BitVec.ofInt k.bits y).toNat)
  | _ => none
noncomputable def bitsFast (op : BinOp) (a b : Nat) : Option Nat :=
  match op with
  | .and => some (Nat.land a b)
  | .or => some (Nat.lor a b)
  | .xor => some (Nat.xor a b)
  | _ => none
noncomputable def small (k : IntKind) (x : Int) : Option Nat := Int.rec (fun m => bsel (Nat.ble m (ktop k)) (some m) none) (fun _ => none) x
theorem small_some {k : IntKind} {x : Int} {m : Nat} (h : small k x = some m) : x = m ∧ m ≤ ktop k := by
  cases x with
  | ofNat a =>
    have e : small k (Int.ofNat a) = bsel (Nat.ble a (ktop k)) (some a) none := rfl
    rw [e, bsel_eq] at h; split at h
    · rename_i hb; simp at h; subst h; exact ⟨rfl, by simpa using hb⟩
    · cases h
  | negSucc a => cases h

theorem run_intBits (P : Program) (w : World) (op : BinOp) (k : IntKind) (x y r : Int) (h : bitsSlow op k x y = some r) :
    (Op.intBits op k x y).run P w = .ok (.int k r) w := by
  cases op <;> simp only [bitsSlow, Option.some.injEq, reduceCtorEq] at h <;> subst h <;> rfl

theorem bitsFast_some {op : BinOp} {k : IntKind} {a b r : Nat} (ha : a ≤ ktop k) (hb : b ≤ ktop k) (h : bitsFast op a b = some r) :
    bitsSlow op k a b = some (r : Int) := by
  have hk : ktop k < 2 ^ k.bits := by cases k <;> simp [ktop, IntKind.bits]
  have h2 : ∃ n, ktop k + 1 = 2 ^ n := by
    cases k
    · exact ⟨7, rfl⟩
    · exact ⟨15, rfl⟩
    · exact ⟨31, rfl⟩
    · exact ⟨63, rfl⟩
    · exact ⟨8, rfl⟩
    · exact ⟨16, rfl⟩
    · exact ⟨32, rfl⟩
    · exact ⟨64, rfl⟩
  obtain ⟨n, hn⟩ := h2
  have ea : (BitVec.ofInt k.bits (a : Int)).toNat = a := by rw [BitVec.ofInt_natCast, BitVec.toNat_ofNat]; exact Nat.mod_eq_of_lt (by omega)
  have eb : (BitVec.ofInt k.bits (b : Int)).toNat = b := by rw [BitVec.ofInt_natCast, BitVec.toNat_ofNat]; exact Nat.mod_eq_of_lt (by omega)
  cases op <;> simp only [bitsFast, Option.some.injEq] at h <;> try (cases h)
  · simp only [bitsSlow, BitVec.toNat_and, ea, eb]
    rw [wrap_nat]; rfl
    exact Nat.le_trans Nat.and_le_left ha
  · simp only [bitsSlow, BitVec.toNat_or, ea, eb]
    rw [wrap_nat]; rfl
    have := Nat.or_lt_two_pow (x := a) (y := b) (n := n) (by omega) (by omega); omega
  · simp only [bitsSlow, BitVec.toNat_xor, ea, eb]
    rw [wrap_nat]; rfl
    have := Nat.xor_lt_two_pow (x := a) (y := b) (n := n) (by omega) (by omega); omega

noncomputable def shlZ (k : IntKind) (x : Int) (n : Nat) : Int := Int.rec (fun m => fwrap k (.ofNat (Nat.shiftLeft m n))) (fun m => k.wrap (Int.negSucc m * 2 ^ n)) x
theorem shlZ_eq (k : IntKind) (x : Int) (n : Nat) : shlZ k x n = k.wrap (x * 2 ^ n) := by
  cases x with
  | ofNat m =>
    show fwrap k (.ofNat (m <<< n)) = _
    rw [fwrap_eq, Nat.shiftLeft_eq]; congr 1
  | negSucc m => rfl
noncomputable def shrZ (x : Int) (n : Nat) : Int := Int.rec (fun m => .ofNat (Nat.shiftRight m n)) (fun m => .negSucc (Nat.shiftRight m n)) x
theorem shrZ_eq (x : Int) (n : Nat) : shrZ x n = x.fdiv (2 ^ n) := by
  cases x with
  | ofNat m =>
    show ((m >>> n : Nat) : Int) = Int.fdiv (m : Int) (2 ^ n)
    rw [Nat.shiftRight_eq_div_pow, Int.fdiv_eq_ediv_of_nonneg _ (by exact_mod_cast Nat.zero_le (2 ^ n))]
    simp
  | negSucc m =>
    show Int.negSucc (m >>> n) = Int.fdiv (Int.negSucc m) (2 ^ n)
    rw [Nat.shiftRight_eq_div_pow, Int.fdiv_eq_ediv_of_nonneg _ (by exact_mod_cast Nat.zero_le (2 ^ n))]
    have h : (0 : Int) < 2 ^ n := by exact_mod_cast Nat.two_pow_pos n
    rw [Int.negSucc_ediv _ h, Int.negSucc_eq]; simp; rfl

/- Strings. -/
noncomputable def seq (n a m b : Nat) : Bool := Bool.and (Nat.beq n m) (Nat.beq (bTake a n) (bTake b n))
theorem strB_toList (n v : Nat) : (strB n v).data.toList = (ub n v).map UInt8.ofNat := rfl
theorem ofNat_inj : ∀ (l m : List Nat), (∀ x ∈ l, x < 256) → (∀ x ∈ m, x < 256) → l.map UInt8.ofNat = m.map UInt8.ofNat → l = m := by
  intro l
  induction l with
  | nil => intro m _ _ h; cases m <;> simp at h ⊢
  | cons a l ih =>
    intro m hl hm h
    cases m with
    | nil => simp at h
    | cons b m =>
      simp only [List.map_cons, List.cons.injEq] at h
      have e : a = b := by
        have h1 := hl a (by simp)
        have h2 := hm b (by simp)
        have := congrArg UInt8.toNat h.1
        rw [UInt8.toNat_ofNat', UInt8.toNat_ofNat'] at this
        omega
      subst e
      rw [ih m (fun x hx => hl x (by simp [hx])) (fun x hx => hm x (by simp [hx])) h.2]
theorem seq_iff (n a m b : Nat) : seq n a m b = true ↔ strB n a = strB m b := by
  unfold seq
  rw [Bool.and_eq_true, Nat.beq_eq, Nat.beq_eq, bTake_eq, bTake_eq]
  constructor
  · rintro ⟨rfl, h⟩
    unfold strB; rw [← ub_mod n a, ← ub_mod n b, h]
  · intro h
    have h1 : n = m := by have := congrArg ByteArray.size h; simpa using this
    subst h1
    refine ⟨rfl, ub_inj n a b ?_⟩
    have h2 : (ub n a).map UInt8.ofNat = (ub n b).map UInt8.ofNat := by rw [← strB_toList, ← strB_toList, h]
    exact ofNat_inj _ _ (ub_lt n a) (ub_lt n b) h2

noncomputable def sless (n : Nat) : Nat → Nat → Nat → Bool :=
  Nat.rec (motive := fun _ => Nat → Nat → Nat → Bool) (fun _ m _ => Bool.not (Nat.beq m 0))
    (fun _ ih a m b => bsel (Nat.beq m 0) false (bsel (Nat.ble (Nat.succ (Nat.mod a 256)) (Nat.mod b 256)) true
      (bsel (Nat.beq (Nat.mod a 256) (Nat.mod b 256)) (ih (Nat.div a 256) (Nat.pred m) (Nat.div b 256)) false))) n
theorem sless_eq (n : Nat) : ∀ (a m b : Nat), sless n a m b = Op.bytesLess ((ub n a).map UInt8.ofNat) ((ub m b).map UInt8.ofNat) := by
  induction n with
  | zero => intro a m b; cases m <;> rfl
  | succ n ih =>
    intro a m b
    have e : sless (n + 1) a m b = bsel (Nat.beq m 0) false (bsel (Nat.ble (Nat.succ (Nat.mod a 256)) (Nat.mod b 256)) true
      (bsel (Nat.beq (Nat.mod a 256) (Nat.mod b 256)) (sless n (Nat.div a 256) (Nat.pred m) (Nat.div b 256)) false)) := rfl
    rw [e, ih]
    cases m with
    | zero => simp [ub, Op.bytesLess]
    | succ m =>
      have ha : a % 256 < 256 := Nat.mod_lt _ (by decide)
      have hb : b % 256 < 256 := Nat.mod_lt _ (by decide)
      have l1 : (UInt8.ofNat (a % 256) < UInt8.ofNat (b % 256)) ↔ a % 256 < b % 256 := by
        rw [UInt8.lt_iff_toNat_lt, UInt8.toNat_ofNat', UInt8.toNat_ofNat']; simp
      have l2 : (UInt8.ofNat (a % 256) = UInt8.ofNat (b % 256)) ↔ a % 256 = b % 256 := by
        constructor
        · intro h; have := congrArg UInt8.toNat h; rw [UInt8.toNat_ofNat', UInt8.toNat_ofNat'] at this; omega
        · intro h; rw [h]
      simp only [ub, List.map_cons, Op.bytesLess, bsel_eq, Nat.beq_eq, Nat.ble_eq, Nat.pred_succ]
      show (if m + 1 = 0 then _ else if a % 256 + 1 ≤ b % 256 then true else if a % 256 = b % 256 then Op.bytesLess (List.map UInt8.ofNat (ub n (a / 256))) (List.map UInt8.ofNat (ub m (b / 256))) else false) = _
      rw [if_neg (by omega)]
      by_cases h1 : a % 256 < b % 256
      · rw [if_pos (by omega), decide_eq_true (l1.2 h1)]; rfl
      · rw [if_neg (by omega), decide_eq_false (fun h => h1 (l1.1 h))]
        by_cases h2 : a % 256 = b % 256
        · rw [if_pos h2]
          have : (UInt8.ofNat (a % 256) == UInt8.ofNat (b % 256)) = true := by rw [beq_iff_eq]; exact l2.2 h2
          rw [this]; simp
        · rw [if_neg h2]
          have : (UInt8.ofNat (a % 256) == UInt8.ofNat (b % 256)) = false := by rw [beq_eq_false_iff_ne]; exact fun h => h2 (l2.1 h)
          rw [this]; simp

/-- A string's bytes packed. -/
noncomputable def packL (l : List UInt8) : Nat := List.rec 0 (fun b _ r => Nat.add b.toNat (Nat.mul 256 r)) l
theorem ub_packL (l : List UInt8) : (ub l.length (packL l)).map UInt8.ofNat = l := by
  induction l with
  | nil => rfl
  | cons b l ih =>
    have e : packL (b :: l) = b.toNat + 256 * packL l := rfl
    have hb := b.toNat_lt
    simp only [List.length_cons, ub, List.map_cons, e]
    rw [show (b.toNat + 256 * packL l) % 256 = b.toNat by omega, show (b.toNat + 256 * packL l) / 256 = packL l by omega, ih]
    simp
theorem strB_pack (s : ByteArray) : strB s.data.toList.length (packL s.data.toList) = s := by
  unfold strB; rw [ub_packL]
/-- A value's cells. A byte is packed. -/
noncomputable def segsI (k : IntKind) (n : Int) : Segs CV :=
  bsel (kbeq k .u8) (Int.rec (fun m => bsel (Nat.ble m 255) (.bytes 1 m .nil) (.one (.int k n) .nil)) (fun _ => .one (.int k n) .nil) n) (.one (.int k n) .nil)
noncomputable def CV.segs (v : CV) : Segs CV :=
  match v with
  | .agg s => s
  | .int k n => segsI k n
  | v => .one v .nil
theorem row_segsI (k : IntKind) (n : Int) : row (segsI k n) = [.int k n] := by
  unfold segsI
  rw [bsel_eq]
  split
  · rename_i hk
    rw [kbeq_iff] at hk; subst hk
    cases n with
    | ofNat m =>
      show row (bsel (Nat.ble m 255) _ _) = _
      rw [bsel_eq]; split
      · rename_i hm
        rw [Nat.ble_eq] at hm
        show (ub 1 m).map byteV ++ [] = _
        simp [ub, byteV]; omega
      · rfl
    | negSucc m => rfl
  · rfl
theorem row_segs {v : CV} (h : ∀ s, v ≠ .agg s) : row v.segs = [v] := by
  cases v <;> first | rfl | exact row_segsI _ _ | exact absurd rfl (h _)
end Sim
