import Derived.Test.YtfojoloiahhphaaGreatDoorSimI4
/- Sim, part 44: a call whose outcome is known: where the memory has what the call needs, the answer and the memory behind it come from a table; what the table does not name is forgotten. -/
namespace Sim
open Go

/- equal values, of any kind -/
noncomputable def fnEq (f g : Fn) : Bool := match f, g with | .func a, .func b => Nat.beq a b | _, _ => false
theorem fnEq_sound {f g : Fn} (h : fnEq f g = true) : f = g := by
  unfold fnEq at h
  split at h
  · rw [Nat.beq_eq] at h; rw [h]
  · cases h
noncomputable def cvEq (x : CV) : CV → Bool :=
  CV.rec (motive_1 := fun _ => CV → Bool) (motive_2 := fun _ => Segs CV → Bool)
    (fun y => match y with | .undef => true | _ => false)
    (fun a y => match y with | .bool b => boolEq a b | _ => false)
    (fun j a y => match y with | .int k b => Bool.and (kbeq j k) (zeq a b) | _ => false)
    (fun n a y => match y with | .str m b => Bool.and (Nat.beq n m) (Nat.beq a b) | _ => false)
    (fun y => match y with | .nilptr => true | _ => false)
    (fun b o y => match y with | .ptr c p => Bool.and (bpEq b c) (Nat.beq o p) | _ => false)
    (fun y => match y with | .nilslice => true | _ => false)
    (fun b o l c g y => match y with | .slice b' o' l' c' g' => Bool.and (bpEq b b') (Bool.and (Nat.beq o o') (Bool.and (Nat.beq l l') (Bool.and (Nat.beq c c') (Nat.beq g g')))) | _ => false)
    (fun y => match y with | .nilmap => true | _ => false)
    (fun b y => match y with | .map c => bpEq b c | _ => false)
    (fun f _ _ ia ic y => match y with | .func g a c => Bool.and (fnEq f g) (Bool.and (ia a) (ic c)) | _ => false)
    (fun y => match y with | .nilfunc => true | _ => false)
    (fun t _ iv y => match y with | .iface u v => Bool.and (Nat.beq t u) (iv v) | _ => false)
    (fun y => match y with | .niliface => true | _ => false)
    (fun _ is y => match y with | .agg s => is s | _ => false)
    (fun _ is y => match y with | .tuple s => is s | _ => false)
    (fun n y => match y with | .atleast m => Nat.beq n m | _ => false)
    (fun s => match s with | .nil => true | _ => false)
    (fun _ _ iv ir s => match s with | .one v r => Bool.and (iv v) (ir r) | _ => false)
    (fun n a _ ir s => match s with | .bytes m b r => Bool.and (Nat.beq n m) (Bool.and (Nat.beq a b) (ir r)) | _ => false) x
noncomputable def sgEq (x : Segs CV) : Segs CV → Bool :=
  CV.rec_1 (motive_1 := fun _ => CV → Bool) (motive_2 := fun _ => Segs CV → Bool)
    (fun y => match y with | .undef => true | _ => false)
    (fun a y => match y with | .bool b => boolEq a b | _ => false)
    (fun j a y => match y with | .int k b => Bool.and (kbeq j k) (zeq a b) | _ => false)
    (fun n a y => match y with | .str m b => Bool.and (Nat.beq n m) (Nat.beq a b) | _ => false)
    (fun y => match y with | .nilptr => true | _ => false)
    (fun b o y => match y with | .ptr c p => Bool.and (bpEq b c) (Nat.beq o p) | _ => false)
    (fun y => match y with | .nilslice => true | _ => false)
    (fun b o l c g y => match y with | .slice b' o' l' c' g' => Bool.and (bpEq b b') (Bool.and (Nat.beq o o') (Bool.and (Nat.beq l l') (Bool.and (Nat.beq c c') (Nat.beq g g')))) | _ => false)
    (fun y => match y with | .nilmap => true | _ => false)
    (fun b y => match y with | .map c => bpEq b c | _ => false)
    (fun f _ _ ia ic y => match y with | .func g a c => Bool.and (fnEq f g) (Bool.and (ia a) (ic c)) | _ => false)
    (fun y => match y with | .nilfunc => true | _ => false)
    (fun t _ iv y => match y with | .iface u v => Bool.and (Nat.beq t u) (iv v) | _ => false)
    (fun y => match y with | .niliface => true | _ => false)
    (fun _ is y => match y with | .agg s => is s | _ => false)
    (fun _ is y => match y with | .tuple s => is s | _ => false)
    (fun n y => match y with | .atleast m => Nat.beq n m | _ => false)
    (fun s => match s with | .nil => true | _ => false)
    (fun _ _ iv ir s => match s with | .one v r => Bool.and (iv v) (ir r) | _ => false)
    (fun n a _ ir s => match s with | .bytes m b r => Bool.and (Nat.beq n m) (Bool.and (Nat.beq a b) (ir r)) | _ => false) x
theorem cvEq_sound (x : CV) : ∀ y, cvEq x y = true → x = y := by
  refine CV.rec (motive_1 := fun x => ∀ y, cvEq x y = true → x = y) (motive_2 := fun s => ∀ t, sgEq s t = true → s = t) ?_ ?_ ?_ ?_ ?_ ?_ ?_ ?_ ?_ ?_ ?_ ?_ ?_ ?_ ?_ ?_ ?_ ?_ ?_ ?_ x
  · intro y h; cases y <;> first | rfl | (exact absurd h Bool.false_ne_true)
  · intro a y h; cases y <;> first | (exact congrArg CV.bool (boolEq_iff.1 h)) | (exact absurd h Bool.false_ne_true)
  · intro j a y h
    cases y <;> first | (exact absurd h Bool.false_ne_true) | skip
    rename_i k b
    have h : Bool.and (kbeq j k) (zeq a b) = true := h
    rw [Bool.and_eq_true, kbeq_iff, zeq_iff] at h
    rw [h.1, h.2]
  · intro n a y h
    cases y <;> first | (exact absurd h Bool.false_ne_true) | skip
    rename_i m b
    have h : Bool.and (Nat.beq n m) (Nat.beq a b) = true := h
    rw [Bool.and_eq_true, Nat.beq_eq, Nat.beq_eq] at h
    rw [h.1, h.2]
  · intro y h; cases y <;> first | rfl | (exact absurd h Bool.false_ne_true)
  · intro b o y h
    cases y <;> first | (exact absurd h Bool.false_ne_true) | skip
    rename_i c p
    have h : Bool.and (bpEq b c) (Nat.beq o p) = true := h
    rw [Bool.and_eq_true, bpEq_iff, Nat.beq_eq] at h
    rw [h.1, h.2]
  · intro y h; cases y <;> first | rfl | (exact absurd h Bool.false_ne_true)
  · intro b o l c g y h
    cases y <;> first | (exact absurd h Bool.false_ne_true) | skip
    rename_i b' o' l' c' g'
    have h : Bool.and (bpEq b b') (Bool.and (Nat.beq o o') (Bool.and (Nat.beq l l') (Bool.and (Nat.beq c c') (Nat.beq g g')))) = true := h
    simp only [Bool.and_eq_true, bpEq_iff, Nat.beq_eq] at h
    obtain ⟨h1, h2, h3, h4, h5⟩ := h
    rw [h1, h2, h3, h4, h5]
  · intro y h; cases y <;> first | rfl | (exact absurd h Bool.false_ne_true)
  · intro b y h
    cases y <;> first | (exact absurd h Bool.false_ne_true) | skip
    rename_i c
    exact congrArg CV.map (bpEq_iff.1 h)
  · intro f a c ia ic y h
    cases y <;> first | (exact absurd h Bool.false_ne_true) | skip
    rename_i g a' c'
    have h : Bool.and (fnEq f g) (Bool.and (sgEq a a') (sgEq c c')) = true := h
    simp only [Bool.and_eq_true] at h
    rw [fnEq_sound h.1, ia _ h.2.1, ic _ h.2.2]
  · intro y h; cases y <;> first | rfl | (exact absurd h Bool.false_ne_true)
  · intro t v iv y h
    cases y <;> first | (exact absurd h Bool.false_ne_true) | skip
    rename_i u v'
    have h : Bool.and (Nat.beq t u) (cvEq v v') = true := h
    simp only [Bool.and_eq_true, Nat.beq_eq] at h
    rw [h.1, iv _ h.2]
  · intro y h; cases y <;> first | rfl | (exact absurd h Bool.false_ne_true)
  · intro s is y h
    cases y <;> first | (exact absurd h Bool.false_ne_true) | skip
    exact congrArg CV.agg (is _ h)
  · intro s is y h
    cases y <;> first | (exact absurd h Bool.false_ne_true) | skip
    exact congrArg CV.tuple (is _ h)
  · intro n y h
    cases y <;> first | (exact absurd h Bool.false_ne_true) | skip
    rename_i m
    have h : Nat.beq n m = true := h
    rw [Nat.beq_eq] at h; rw [h]
  · intro t h; cases t <;> first | rfl | (exact absurd h Bool.false_ne_true)
  · intro v r iv ir t h
    cases t <;> first | (exact absurd h Bool.false_ne_true) | skip
    rename_i v' r'
    have h : Bool.and (cvEq v v') (sgEq r r') = true := h
    rw [Bool.and_eq_true] at h
    rw [iv _ h.1, ir _ h.2]
  · intro n a r ir t h
    cases t <;> first | (exact absurd h Bool.false_ne_true) | skip
    rename_i m b r'
    have h : Bool.and (Nat.beq n m) (Bool.and (Nat.beq a b) (sgEq r r')) = true := h
    simp only [Bool.and_eq_true, Nat.beq_eq] at h
    rw [h.1, h.2.1, ir _ h.2.2]
theorem sgEq_sound (x : Segs CV) : ∀ y, sgEq x y = true → x = y := by
  induction x with
  | nil => intro t h; cases t <;> first | rfl | (exact absurd h Bool.false_ne_true)
  | one v r ih =>
    intro t h
    cases t <;> first | (exact absurd h Bool.false_ne_true) | skip
    rename_i v' r'
    have h : Bool.and (cvEq v v') (sgEq r r') = true := h
    rw [Bool.and_eq_true] at h
    rw [cvEq_sound _ _ h.1, ih _ h.2]
  | bytes n a r ih =>
    intro t h
    cases t <;> first | (exact absurd h Bool.false_ne_true) | skip
    rename_i m b r'
    have h : Bool.and (Nat.beq n m) (Bool.and (Nat.beq a b) (sgEq r r')) = true := h
    simp only [Bool.and_eq_true, Nat.beq_eq] at h
    rw [h.1, h.2.1, ih _ h.2.2]

noncomputable def esEq (x : List Ent) : List Ent → Bool :=
  List.rec (motive := fun _ => List Ent → Bool) (fun y => match y with | [] => true | _ => false)
    (fun e _ ih y => match y with | f :: y => Bool.and (cvEq e.1 f.1) (Bool.and (cvEq e.2.1 f.2.1) (Bool.and (Nat.beq e.2.2 f.2.2) (ih y))) | _ => false) x
theorem esEq_sound (x : List Ent) : ∀ y, esEq x y = true → x = y := by
  induction x with
  | nil => intro y h; cases y <;> first | rfl | (exact absurd h Bool.false_ne_true)
  | cons e x ih =>
    intro y h
    cases y <;> first | (exact absurd h Bool.false_ne_true) | skip
    rename_i f y
    have h : Bool.and (cvEq e.1 f.1) (Bool.and (cvEq e.2.1 f.2.1) (Bool.and (Nat.beq e.2.2 f.2.2) (esEq x y))) = true := h
    simp only [Bool.and_eq_true, Nat.beq_eq] at h
    have h1 := cvEq_sound _ _ h.1
    have h2 := cvEq_sound _ _ h.2.1
    have h3 := h.2.2.1
    rw [ih _ h.2.2.2]
    obtain ⟨a, b, c⟩ := e
    obtain ⟨a', b', c'⟩ := f
    dsimp only at h1 h2 h3
    rw [h1, h2, h3]
noncomputable def argsEq (x : List CV) : List CV → Bool :=
  List.rec (motive := fun _ => List CV → Bool) (fun y => match y with | [] => true | _ => false) (fun u _ ih y => match y with | v :: y => Bool.and (cvEq u v) (ih y) | _ => false) x
theorem argsEq_sound (x : List CV) : ∀ y, argsEq x y = true → x = y := by
  induction x with
  | nil => intro y h; cases y <;> first | rfl | (exact absurd h Bool.false_ne_true)
  | cons e x ih =>
    intro y h
    cases y <;> first | (exact absurd h Bool.false_ne_true) | skip
    rename_i f y
    have h : Bool.and (cvEq e f) (argsEq x y) = true := h
    rw [Bool.and_eq_true] at h
    rw [cvEq_sound _ _ h.1, ih _ h.2]
noncomputable def blkEq (x y : Blk) : Bool :=
  match x, y with
  | .cells s t g, .cells s' t' g' => Bool.and (Nat.beq t t') (Bool.and (boolEq g g') (sgEq s s'))
  | .map es c, .map es' c' => Bool.and (Nat.beq c c') (esEq es es')
  | .lmap es, .lmap es' => esEq es es'
  | _, _ => false
theorem blkEq_sound {x y : Blk} (h : blkEq x y = true) : x = y := by
  unfold blkEq at h
  split at h
  · simp only [Bool.and_eq_true, Nat.beq_eq, boolEq_iff] at h
    rw [h.1, h.2.1, sgEq_sound _ _ h.2.2]
  · simp only [Bool.and_eq_true, Nat.beq_eq] at h
    rw [h.1, esEq_sound _ _ h.2]
  · rw [esEq_sound _ _ h]
  · cases h

/- tables of blocks -/
abbrev Tab := List (Bp × Blk)
noncomputable def tabM (l : Tab) : PT Blk := List.rec (motive := fun _ => PT Blk) PT.nil (fun p _ ih => ih.put p.1 (some p.2)) l
noncomputable def tabIn (l : Tab) (m : PT Blk) : Bool := List.rec (motive := fun _ => Bool) true (fun p _ ih => Bool.and (match m.get p.1 with | some b => blkEq p.2 b | none => false) ih) l
theorem tabM_mem : ∀ {l : Tab} {q : Bp} {b : Blk}, (tabM l).get q = some b → (q, b) ∈ l := by
  intro l
  induction l with
  | nil => intro q b h; have h : (PT.nil : PT Blk).get q = some b := h; rw [PT.get_nil] at h; cases h
  | cons p l ih =>
    intro q b h
    have h : ((tabM l).put p.1 (some p.2)).get q = some b := h
    by_cases e : q = p.1
    · subst e
      rw [PT.get_put_same] at h
      cases h
      exact List.mem_cons_self ..
    · rw [PT.get_put_ne _ _ _ _ e] at h
      exact List.mem_cons_of_mem _ (ih h)
theorem tabIn_mem : ∀ {l : Tab} {m : PT Blk}, tabIn l m = true → ∀ q b, (q, b) ∈ l → m.get q = some b := by
  intro l
  induction l with
  | nil => intro m _ q b h; cases h
  | cons p l ih =>
    intro m h q b hm
    have h : Bool.and (match m.get p.1 with | some b => blkEq p.2 b | none => false) (tabIn l m) = true := h
    rw [Bool.and_eq_true] at h
    rcases List.mem_cons.1 hm with e | hm
    · have h1 := h.1
      rw [← e] at h1
      split at h1
      · rename_i b' hb
        rw [hb]; exact congrArg some (blkEq_sound h1).symm
      · cases h1
    · exact ih h.2 q b hm
theorem tabIn_sub {l : Tab} {m : PT Blk} (h : tabIn l m = true) (q : Bp) : (tabM l).get q = m.get q ∨ (tabM l).get q = none := by
  cases hq : (tabM l).get q with
  | none => exact .inr rfl
  | some b => exact .inl (tabIn_mem h q b (tabM_mem hq)).symm

structure Snap where
  args : List CV
  next : Bp
  pre : Tab
  val : CV
  next' : Bp
  post : Tab
noncomputable def Snap.st (S : Snap) : St := ⟨tabM S.pre, S.next⟩
noncomputable def Snap.fits (S : Snap) (args : List CV) (st : St) : Bool := Bool.and (bpEq S.next st.next) (Bool.and (argsEq S.args args) (tabIn S.pre st.mem))
noncomputable def Snap.is (S : Snap) (r : OR) : Bool := match r with | .ok v st => Bool.and (cvEq S.val v) (Bool.and (bpEq S.next' st.next) (tabIn S.post st.mem)) | .bad => false
noncomputable def snapG (S : Snap) (F : FunX) : FunX := fun call args st => bsel (S.fits args st) (.ok S.val ⟨tabM S.post, S.next'⟩) (F call args st)
noncomputable def snapI (S : Snap) (F : Option FunX) : Option FunX := Option.rec none (fun F => some (snapG S F)) F
noncomputable def snapO (S : Snap) : FunX := fun _ args st => bsel (S.fits args st) (.ok S.val ⟨tabM S.post, S.next'⟩) .bad

section
variable {P : Program} {f : Nat}
/-- Less is known, ahead of the call and behind it. -/
theorem snap_ok {S : Snap} {call0 : CallF} {F : FunX} (hm : P.follows .mixedOrders = true) (hF : funXK P f = some F) (h0 : CallSound P call0) (hs : S.is (F call0 S.args S.st) = true) {args : List CV} {st : St} (hfit : S.fits args st = true) : callable P f = true ∧ CallOK P f args st S.val ⟨tabM S.post, S.next'⟩ := by
  unfold Snap.is at hs
  split at hs
  · rename_i v st1 hr
    simp only [Bool.and_eq_true, bpEq_iff] at hs
    obtain ⟨hv, hn, hp⟩ := hs
    have hv := cvEq_sound _ _ hv
    subst hv
    unfold Snap.fits at hfit
    simp only [Bool.and_eq_true, bpEq_iff] at hfit
    obtain ⟨fn, fa, fp⟩ := hfit
    have fa := argsEq_sound _ _ fa
    subst fa
    have hp0 : callable P f = true ∧ CallOK P f S.args S.st S.val st1 := by
      rcases funXK_ok hF call0 S.args S.st with h1 | h1
      · rw [h1] at hr; cases hr
      · rw [h1] at hr
        exact enterC_sound h0 (runDraw2_sound hm) hr
    obtain ⟨hc, hk⟩ := hp0
    · refine ⟨hc, fun ρ w args' hw ha => ?_⟩
      have hw0 : WR ρ S.st w := hw.sub (fun q _ _ => tabIn_sub fp q) fn
      refine (hk ρ w args' hw0 ha).mono ?_
      rintro e w' ⟨v', ρ', rfl, hv, hA⟩
      refine ⟨v', ρ', rfl, hv, hA.wr.sub (fun q _ _ => tabIn_sub hp q) hn, hA.ext, fun q hq hr => hA.dom q (by show _ < S.next.dec; rw [fn]; exact hq) hr, by show _ ≤ S.next'.dec; rw [hn, ← fn]; exact hA.next, fun b blk r sz h1 h2 => ?_, fun r hr hk => hA.kept r hr fun b blk sz g1 g2 => ?_, hA.size, hA.os, hA.output⟩
      · have h1' : st1.mem.get b = some blk := by
          rcases tabIn_sub hp b with e | e
          · rw [← e]; exact h1
          · have h1 : (tabM S.post).get b = some blk := h1
            rw [e] at h1; cases h1
        rcases hA.origin b blk r sz h1' h2 with ⟨b0, blk0, sz0, g1, g2⟩ | g
        · refine .inl ⟨b0, blk0, sz0, ?_, g2⟩
          rcases tabIn_sub fp b0 with e | e
          · rw [← e]; exact g1
          · have g1 : (tabM S.pre).get b0 = some blk0 := g1
            rw [e] at g1; cases g1
        · exact .inr g
      · refine hk b blk sz ?_ g2
        rcases tabIn_sub fp b with e | e
        · rw [← e]; exact g1
        · have g1 : (tabM S.pre).get b = some blk := g1
          rw [e] at g1; cases g1
  · cases hs
theorem snap_out {S : Snap} {call0 : CallF} {F : FunX} (hm : P.follows .mixedOrders = true) (hF : funXK P f = some F) (h0 : CallSound P call0) (hs : S.is (F call0 S.args S.st) = true) {args : List CV} {st : St} (hfit : S.fits args st = true) : CallOut P f args st S.val ⟨tabM S.post, S.next'⟩ :=
  .inl (snap_ok hm hF h0 hs hfit)
end
end Sim
