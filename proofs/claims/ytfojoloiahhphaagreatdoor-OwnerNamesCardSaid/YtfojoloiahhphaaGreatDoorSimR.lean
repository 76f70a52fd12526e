import Derived.Test.YtfojoloiahhphaaGreatDoorSimI6
/- Sim, part 46: a call asked in a small memory that holds just what its arguments reach, numbered from the beginning: the kernel asks alike calls but once. -/
namespace Sim
open Go

structure VS where
  g : PT Bp
  h : PT Bp
  n : Bp
  todo : List Bp
  acc : List Bp
  img : List Bp
abbrev VK := VS → (VS → OR) → OR
noncomputable def visB (m : Nat) (b : Bp) : VK := fun σ k =>
  Option.rec (motive := fun _ => OR)
    (bsel (Nat.ble (Nat.succ b.dec) m) (PT.force (σ.g.put b (some σ.n)) fun g => PT.force (σ.h.put σ.n (some b)) fun h => forceB σ.n.succ fun n => k ⟨g, h, n, b :: σ.todo, b :: σ.acc, σ.n :: σ.img⟩) .bad)
    (fun _ => k σ) (σ.g.get b)
noncomputable def visV (m : Nat) (v : CV) : VK :=
  CV.rec (motive_1 := fun _ => VK) (motive_2 := fun _ => VK)
    (fun σ k => k σ) (fun _ σ k => k σ) (fun _ _ σ k => k σ) (fun _ _ σ k => k σ) (fun σ k => k σ)
    (fun b _ => visB m b) (fun σ k => k σ) (fun b _ _ _ _ => visB m b) (fun σ k => k σ) (fun b => visB m b)
    (fun _ _ _ ia ic σ k => ia σ fun σ => ic σ k) (fun σ k => k σ) (fun _ _ iv => iv) (fun σ k => k σ) (fun _ is => is) (fun _ is => is) (fun _ σ k => k σ)
    (fun σ k => k σ) (fun _ _ iv ir σ k => iv σ fun σ => ir σ k) (fun _ _ _ ir => ir) v
noncomputable def visS (m : Nat) (s : Segs CV) : VK :=
  CV.rec_1 (motive_1 := fun _ => VK) (motive_2 := fun _ => VK)
    (fun σ k => k σ) (fun _ σ k => k σ) (fun _ _ σ k => k σ) (fun _ _ σ k => k σ) (fun σ k => k σ)
    (fun b _ => visB m b) (fun σ k => k σ) (fun b _ _ _ _ => visB m b) (fun σ k => k σ) (fun b => visB m b)
    (fun _ _ _ ia ic σ k => ia σ fun σ => ic σ k) (fun σ k => k σ) (fun _ _ iv => iv) (fun σ k => k σ) (fun _ is => is) (fun _ is => is) (fun _ σ k => k σ)
    (fun σ k => k σ) (fun _ _ iv ir σ k => iv σ fun σ => ir σ k) (fun _ _ _ ir => ir) s
noncomputable def visE (m : Nat) (es : List Ent) : VK :=
  List.rec (motive := fun _ => VK) (fun σ k => k σ) (fun e _ ih σ k => visV m e.1 σ fun σ => visV m e.2.1 σ fun σ => ih σ k) es
noncomputable def visL (m : Nat) (l : List CV) : VK :=
  List.rec (motive := fun _ => VK) (fun σ k => k σ) (fun v _ ih σ k => visV m v σ fun σ => ih σ k) l
noncomputable def visBlk (m : Nat) (b : Blk) : VK :=
  Blk.rec (motive := fun _ => VK) (fun s _ _ => visS m s) (fun es _ => visE m es) (fun es => visE m es) b
noncomputable def visLoop (m : Nat) (src : PT Blk) (fuel : Nat) : VK :=
  Nat.rec (motive := fun _ => VK) (fun _ _ => .bad)
    (fun _ ih σ k => List.rec (motive := fun _ => OR) (k σ)
      (fun b r _ => Option.rec (motive := fun _ => OR) (ih ⟨σ.g, σ.h, σ.n, r, σ.acc, σ.img⟩ k) (fun blk => visBlk m blk ⟨σ.g, σ.h, σ.n, r, σ.acc, σ.img⟩ fun σ => ih σ k) (src.get b)) σ.todo) fuel

structure Good (m : Nat) (σ : VS) : Prop where
  gh : ∀ b i, σ.g.get b = some i → σ.h.get i = some b
  hg : ∀ b i, σ.h.get i = some b → σ.g.get b = some i
  lt : ∀ b i, σ.g.get b = some i → i.dec < σ.n.dec
  bd : ∀ b i, σ.g.get b = some i → b.dec < m
  acc : ∀ b i, σ.g.get b = some i → b ∈ σ.acc
  img : ∀ b i, σ.g.get b = some i → i ∈ σ.img
structure Ext (m : Nat) (σ σ' : VS) : Prop where
  good : Good m σ → Good m σ'
  le : σ.n.dec ≤ σ'.n.dec
  keep : ∀ b i, σ.g.get b = some i → σ'.g.get b = some i
  new : ∀ b i, σ'.g.get b = some i → σ.g.get b = some i ∨ σ.n.dec ≤ i.dec
theorem Ext.refl (m : Nat) (σ : VS) : Ext m σ σ := ⟨id, Nat.le_refl _, fun _ _ h => h, fun _ _ h => .inl h⟩
theorem Ext.trans {m : Nat} {a b c : VS} (h : Ext m a b) (h' : Ext m b c) : Ext m a c :=
  ⟨fun g => h'.good (h.good g), Nat.le_trans h.le h'.le, fun x i e => h'.keep x i (h.keep x i e), fun x i e => by
    rcases h'.new x i e with e | e
    · exact h.new x i e
    · exact .inr (Nat.le_trans h.le e)⟩
def VOK (m : Nat) (f : VK) : Prop := ∀ σ k, f σ k = .bad ∨ ∃ σ', f σ k = k σ' ∧ Ext m σ σ'
theorem VOK.id (m : Nat) : VOK m (fun σ k => k σ) := fun σ _ => .inr ⟨σ, rfl, Ext.refl m σ⟩
theorem VOK.seq {m : Nat} {f g : VK} (hf : VOK m f) (hg : VOK m g) : VOK m (fun σ k => f σ fun σ => g σ k) := fun σ k => by
  rcases hf σ (fun σ => g σ k) with e | ⟨σ1, e, h1⟩
  · exact .inl e
  · rcases hg σ1 k with e2 | ⟨σ2, e2, h2⟩
    · exact .inl (e.trans e2)
    · exact .inr ⟨σ2, e.trans e2, h1.trans h2⟩
theorem visB_ok (m : Nat) (b : Bp) : VOK m (visB m b) := fun σ k => by
  unfold visB
  cases hg : σ.g.get b with
  | some i => exact .inr ⟨σ, rfl, Ext.refl m σ⟩
  | none =>
    dsimp only
    rw [bsel_eq]
    split
    · rename_i hb
      rw [Nat.ble_eq] at hb
      rw [PT.force_eq, PT.force_eq, forceB_eq]
      refine .inr ⟨_, rfl, fun G => ⟨fun b' i h => ?_, fun b' i h => ?_, fun b' i h => ?_, fun b' i h => ?_, fun b' i h => ?_, fun b' i h => ?_⟩, ?_, fun b' i h => ?_, fun b' i h => ?_⟩
      · dsimp only at h ⊢
        by_cases e : b' = b
        · subst e; rw [PT.get_put_same] at h; cases h; rw [PT.get_put_same]
        · rw [PT.get_put_ne _ _ _ _ e] at h
          have := G.lt b' i h
          rw [PT.get_put_ne _ _ _ _ (fun e => by rw [e] at this; omega)]
          exact G.gh b' i h
      · dsimp only at h ⊢
        by_cases e : i = σ.n
        · subst e; rw [PT.get_put_same] at h; cases h; rw [PT.get_put_same]
        · rw [PT.get_put_ne _ _ _ _ e] at h
          have := G.hg b' i h
          rw [PT.get_put_ne _ _ _ _ (fun e => by rw [e, hg] at this; cases this)]
          exact this
      · dsimp only at h ⊢
        rw [Bp.dec_succ]
        by_cases e : b' = b
        · subst e; rw [PT.get_put_same] at h; cases h; omega
        · rw [PT.get_put_ne _ _ _ _ e] at h
          have := G.lt b' i h
          omega
      · dsimp only at h
        by_cases e : b' = b
        · subst e; exact hb
        · rw [PT.get_put_ne _ _ _ _ e] at h
          exact G.bd b' i h
      · dsimp only at h ⊢
        by_cases e : b' = b
        · subst e; exact List.mem_cons_self ..
        · rw [PT.get_put_ne _ _ _ _ e] at h
          exact List.mem_cons_of_mem _ (G.acc b' i h)
      · dsimp only at h ⊢
        by_cases e : b' = b
        · subst e; rw [PT.get_put_same] at h; cases h; exact List.mem_cons_self ..
        · rw [PT.get_put_ne _ _ _ _ e] at h
          exact List.mem_cons_of_mem _ (G.img b' i h)
      · dsimp only
        rw [Bp.dec_succ]; omega
      · dsimp only
        rw [PT.get_put_ne _ _ _ _ (fun e => by rw [e, hg] at h; cases h)]; exact h
      · dsimp only at h
        by_cases e : b' = b
        · subst e; rw [PT.get_put_same] at h; cases h; exact .inr (Nat.le_refl _)
        · rw [PT.get_put_ne _ _ _ _ e] at h; exact .inl h
    · exact .inl rfl
theorem visV_ok (m : Nat) (v : CV) : VOK m (visV m v) := by
  refine CV.rec (motive_1 := fun v => VOK m (visV m v)) (motive_2 := fun s => VOK m (visS m s)) ?_ ?_ ?_ ?_ ?_ ?_ ?_ ?_ ?_ ?_ ?_ ?_ ?_ ?_ ?_ ?_ ?_ ?_ ?_ ?_ v
  · exact VOK.id m
  · intro _; exact VOK.id m
  · intro _ _; exact VOK.id m
  · intro _ _; exact VOK.id m
  · exact VOK.id m
  · intro b _; exact visB_ok m b
  · exact VOK.id m
  · intro b _ _ _ _; exact visB_ok m b
  · exact VOK.id m
  · intro b; exact visB_ok m b
  · intro _ _ _ ia ic; have h := VOK.seq ia ic; exact h
  · exact VOK.id m
  · intro _ _ iv; exact iv
  · exact VOK.id m
  · intro _ is; exact is
  · intro _ is; exact is
  · intro _; exact VOK.id m
  · exact VOK.id m
  · intro _ _ iv ir; have h := VOK.seq iv ir; exact h
  · intro _ _ _ ir; exact ir
theorem visS_ok (m : Nat) (s : Segs CV) : VOK m (visS m s) := by
  induction s with
  | nil => exact VOK.id m
  | one v r ih => have h := VOK.seq (visV_ok m v) ih; exact h
  | bytes _ _ r ih => exact ih
theorem visE_ok (m : Nat) (es : List Ent) : VOK m (visE m es) := by
  induction es with
  | nil => exact VOK.id m
  | cons e es ih => have h := VOK.seq (visV_ok m e.1) (VOK.seq (visV_ok m e.2.1) ih); exact h
theorem visL_ok (m : Nat) (l : List CV) : VOK m (visL m l) := by
  induction l with
  | nil => exact VOK.id m
  | cons e es ih => have h := VOK.seq (visV_ok m e) ih; exact h
theorem visBlk_ok (m : Nat) (b : Blk) : VOK m (visBlk m b) := by
  cases b with
  | cells s _ _ => exact visS_ok m s
  | map es _ => exact visE_ok m es
  | lmap es => exact visE_ok m es
theorem pop_ext (m : Nat) (σ : VS) (r : List Bp) : Ext m σ ⟨σ.g, σ.h, σ.n, r, σ.acc, σ.img⟩ :=
  ⟨fun G => ⟨G.gh, G.hg, G.lt, G.bd, G.acc, G.img⟩, Nat.le_refl _, fun _ _ h => h, fun _ _ h => .inl h⟩
theorem visLoop_ok (m : Nat) (src : PT Blk) (fuel : Nat) : VOK m (visLoop m src fuel) := by
  induction fuel with
  | zero => exact fun _ _ => .inl rfl
  | succ f ih =>
    intro σ k
    have e : visLoop m src (f + 1) σ k = List.rec (motive := fun _ => OR) (k σ)
      (fun b r _ => Option.rec (motive := fun _ => OR) (visLoop m src f ⟨σ.g, σ.h, σ.n, r, σ.acc, σ.img⟩ k) (fun blk => visBlk m blk ⟨σ.g, σ.h, σ.n, r, σ.acc, σ.img⟩ fun σ => visLoop m src f σ k) (src.get b)) σ.todo := rfl
    rw [e]
    cases σ.todo with
    | nil => exact .inr ⟨σ, rfl, Ext.refl m σ⟩
    | cons b r =>
      dsimp only
      cases src.get b with
      | none =>
        dsimp only
        rcases ih ⟨σ.g, σ.h, σ.n, r, σ.acc, σ.img⟩ k with e2 | ⟨σ2, e2, h2⟩
        · exact .inl e2
        · exact .inr ⟨σ2, e2, (pop_ext m σ r).trans h2⟩
      | some blk =>
        dsimp only
        rcases VOK.seq (visBlk_ok m blk) ih ⟨σ.g, σ.h, σ.n, r, σ.acc, σ.img⟩ k with e2 | ⟨σ2, e2, h2⟩
        · exact .inl e2
        · exact .inr ⟨σ2, e2, (pop_ext m σ r).trans h2⟩

/- renaming -/
noncomputable def optB (x : Option Bp) (k : Bp → OR) : OR := Option.rec (motive := fun _ => OR) .bad (fun q => forceB q k) x
noncomputable def forceBool (b : Bool) (k : Bool → OR) : OR := Bool.rec (motive := fun _ => OR) (k false) (k true) b
theorem forceBool_eq (b : Bool) (k : Bool → OR) : forceBool b k = k b := by cases b <;> rfl
noncomputable def renK (g : PT Bp) (v : CV) : (CV → OR) → OR :=
  CV.rec (motive_1 := fun _ => (CV → OR) → OR) (motive_2 := fun _ => (Segs CV → OR) → OR)
    (fun k => k .undef) (fun b k => forceBool b fun b => k (.bool b)) (fun q n k => forceZ n fun n => k (.int q n)) (fun a b k => forceN a fun a => forceN b fun b => k (.str a b)) (fun k => k .nilptr)
    (fun b off k => optB (g.get b) fun b => forceN off fun off => k (.ptr b off)) (fun k => k .nilslice)
    (fun b off len cap gr k => optB (g.get b) fun b => forceN off fun off => forceN len fun len => forceN cap fun cap => forceN gr fun gr => k (.slice b off len cap gr))
    (fun k => k .nilmap) (fun b k => optB (g.get b) fun b => k (.map b))
    (fun f _ _ ia ic k => ia fun a => ic fun c => k (.func f a c)) (fun k => k .nilfunc) (fun t _ iv k => forceN t fun t => iv fun v => k (.iface t v)) (fun k => k .niliface)
    (fun _ is k => is fun s => k (.agg s)) (fun _ is k => is fun s => k (.tuple s)) (fun n k => forceN n fun n => k (.atleast n))
    (fun k => k .nil) (fun _ _ iv ir k => iv fun v => ir fun r => k (.one v r)) (fun n a _ ir k => forceN n fun n => forceN a fun a => ir fun r => k (.bytes n a r)) v
noncomputable def renS (g : PT Bp) (s : Segs CV) : (Segs CV → OR) → OR :=
  CV.rec_1 (motive_1 := fun _ => (CV → OR) → OR) (motive_2 := fun _ => (Segs CV → OR) → OR)
    (fun k => k .undef) (fun b k => forceBool b fun b => k (.bool b)) (fun q n k => forceZ n fun n => k (.int q n)) (fun a b k => forceN a fun a => forceN b fun b => k (.str a b)) (fun k => k .nilptr)
    (fun b off k => optB (g.get b) fun b => forceN off fun off => k (.ptr b off)) (fun k => k .nilslice)
    (fun b off len cap gr k => optB (g.get b) fun b => forceN off fun off => forceN len fun len => forceN cap fun cap => forceN gr fun gr => k (.slice b off len cap gr))
    (fun k => k .nilmap) (fun b k => optB (g.get b) fun b => k (.map b))
    (fun f _ _ ia ic k => ia fun a => ic fun c => k (.func f a c)) (fun k => k .nilfunc) (fun t _ iv k => forceN t fun t => iv fun v => k (.iface t v)) (fun k => k .niliface)
    (fun _ is k => is fun s => k (.agg s)) (fun _ is k => is fun s => k (.tuple s)) (fun n k => forceN n fun n => k (.atleast n))
    (fun k => k .nil) (fun _ _ iv ir k => iv fun v => ir fun r => k (.one v r)) (fun n a _ ir k => forceN n fun n => forceN a fun a => ir fun r => k (.bytes n a r)) s

def Maps (g : PT Bp) (ρ ρ' : Ren) : Prop := ∀ b q y, g.get b = some q → ρ b = some y → ρ' q = some y
def RVx (g : PT Bp) (v v' : CV) : Prop := ∀ ρ ρ', Maps g ρ ρ' → ∀ x, VR ρ v x → VR ρ' v' x
def RSx (g : PT Bp) (s s' : Segs CV) : Prop := s'.size = s.size ∧ ∀ ρ ρ', Maps g ρ ρ' → ∀ l, VRs ρ (row s) l → VRs ρ' (row s') l
/-- What is done in steps, and hands one thing on, or fails. -/
def Hands {α : Type} (f : (α → OR) → OR) (p : α → Prop) : Prop := (∀ k, f k = .bad) ∨ ∃ a, (∀ k, f k = k a) ∧ p a
theorem Hands.mk {α : Type} {f : (α → OR) → OR} {p : α → Prop} (a : α) (h : ∀ k, f k = k a) (hp : p a) : Hands f p := .inr ⟨a, h, hp⟩
theorem Hands.bind {α β : Type} {f : (α → OR) → OR} {p : α → Prop} {F : α → (β → OR) → OR} {q : β → Prop} (h : Hands f p) (h2 : ∀ a, p a → Hands (F a) q) : Hands (fun k => f fun a => F a k) q := by
  rcases h with h | ⟨a, h, hp⟩
  · exact .inl fun k => h _
  · rcases h2 a hp with e | ⟨b, e, hq⟩
    · exact .inl fun k => (h _).trans (e k)
    · exact .inr ⟨b, fun k => (h _).trans (e k), hq⟩
theorem Hands.optB (x : Option Bp) : Hands (Sim.optB x) (fun q => x = some q) := by
  cases x with
  | none => exact .inl fun _ => rfl
  | some q => exact .inr ⟨q, fun k => forceB_eq q k, rfl⟩
theorem VR.ptr_inv {ρ : Ren} {b : Bp} {off : Nat} {x : Value} (h : VR ρ (.ptr b off) x) : ∃ r sz, x = .pointer (some ⟨r, off, none⟩) ∧ ρ b = some (r, sz) := by
  cases h; exact ⟨_, _, rfl, by assumption⟩
theorem renS_nil (g : PT Bp) : Hands (renS g .nil) (RSx g .nil) := Hands.mk Segs.nil (fun _ => rfl) ⟨rfl, fun ρ ρ' _ l h => ⟨h.len, fun i v v' a => by simp [row, Segs.cells] at a⟩⟩
theorem renS_one (g : PT Bp) (v : CV) (r : Segs CV) (iv : Hands (renK g v) (RVx g v)) (ir : Hands (renS g r) (RSx g r)) : Hands (renS g (.one v r)) (RSx g (.one v r)) := by
  refine Hands.bind (F := fun (v : CV) (k : Segs CV → OR) => renS g r fun r => k (.one v r)) iv fun v' hv => Hands.bind (F := fun (r : Segs CV) (k : Segs CV → OR) => k (.one v' r)) ir fun r' hr => Hands.mk (Segs.one v' r') (fun k => rfl) ⟨by rw [Segs.size_one, Segs.size_one, hr.1], fun ρ ρ' hm l h => ?_⟩
  obtain ⟨x, t, rfl, h1, h2⟩ := VRs.inv (v := v) (l := row r) h
  exact VRs.cons (hv ρ ρ' hm x h1) (hr.2 ρ ρ' hm t h2)
theorem renS_bytes (g : PT Bp) (n val : Nat) (r : Segs CV) (ir : Hands (renS g r) (RSx g r)) : Hands (renS g (.bytes n val r)) (RSx g (.bytes n val r)) := by
  refine Hands.bind (f := forceN n) (p := fun t' => t' = n) (F := fun (n : Nat) (k : Segs CV → OR) => forceN val fun val => renS g r fun r => k (.bytes n val r)) (Hands.mk n (fun k => forceN_eq n k) rfl) fun n' hn => ?_
  subst hn
  refine Hands.bind (f := forceN val) (p := fun t' => t' = val) (F := fun (val : Nat) (k : Segs CV → OR) => renS g r fun r => k (.bytes n' val r)) (Hands.mk val (fun k => forceN_eq val k) rfl) fun val' hv => ?_
  subst hv
  refine Hands.bind (F := fun (r : Segs CV) (k : Segs CV → OR) => k (.bytes n' val' r)) ir fun r' hr => Hands.mk (Segs.bytes n' val' r') (fun k => rfl) ⟨by rw [Segs.size_bytes, Segs.size_bytes, hr.1], fun ρ ρ' hm l hv => ?_⟩
  have e : row (Segs.bytes n' val' r) = (ub n' val').map byteV ++ row r := rfl
  have e' : row (Segs.bytes n' val' r') = (ub n' val').map byteV ++ row r' := rfl
  rw [e] at hv
  rw [e']
  have hl : l = l.take ((ub n' val').map byteV).length ++ l.drop ((ub n' val').map byteV).length := (List.take_append_drop _ _).symm
  have h1 : VRs ρ ((ub n' val').map byteV) (l.take ((ub n' val').map byteV).length) := by
    have := hv.take ((ub n' val').map byteV).length
    rwa [List.take_left'] at this; rfl
  have h2 : VRs ρ (row r) (l.drop ((ub n' val').map byteV).length) := by
    have := hv.drop ((ub n' val').map byteV).length
    rwa [List.drop_left'] at this; rfl
  rw [hl]
  refine VRs.app ⟨h1.len, fun i v v' a b => ?_⟩ (hr.2 ρ ρ' hm _ h2)
  have hx := h1.at' i v v' a b
  rw [List.getElem?_map] at a
  cases hu : (ub n' val')[i]? with
  | none => rw [hu] at a; cases a
  | some x => rw [hu] at a; cases a; cases hx; exact .int _ _
theorem renK_ok (g : PT Bp) (v : CV) : Hands (renK g v) (RVx g v) := by
  refine CV.rec (motive_1 := fun v => Hands (renK g v) (RVx g v)) (motive_2 := fun s => Hands (renS g s) (RSx g s)) ?_ ?_ ?_ ?_ ?_ ?_ ?_ ?_ ?_ ?_ ?_ ?_ ?_ ?_ ?_ ?_ ?_ ?_ ?_ ?_ v
  · exact Hands.mk _ (fun _ => rfl) (fun ρ ρ' _ x h => by cases h; exact .undef)
  · intro b; exact Hands.mk (CV.bool b) (fun k => forceBool_eq b fun b => k (.bool b)) (fun ρ ρ' _ x h => by cases h; exact .bool _)
  · intro q n; exact Hands.mk (CV.int q n) (fun k => forceZ_eq n fun n => k (.int q n)) (fun ρ ρ' _ x h => by cases h; exact .int _ _)
  · intro a b
    refine Hands.mk (.str a b) (fun k => ?_) (fun ρ ρ' _ x h => by cases h; exact .str _ _)
    show forceN a (fun a => forceN b fun b => k (.str a b)) = _
    rw [forceN_eq, forceN_eq]
  · exact Hands.mk _ (fun _ => rfl) (fun ρ ρ' _ x h => by cases h; exact .nilptr)
  · intro b off
    refine Hands.bind (F := fun (b : Bp) (k : CV → OR) => forceN off fun off => k (.ptr b off)) (Hands.optB (g.get b)) fun q hq => Hands.mk (CV.ptr q off) (fun k => forceN_eq off _) fun ρ ρ' hm x h => ?_
    cases h
    exact .ptr _ _ _ _ (hm b q _ hq (by assumption))
  · exact Hands.mk _ (fun _ => rfl) (fun ρ ρ' _ x h => by cases h; exact .nilslice)
  · intro b off len cap gr
    refine Hands.bind (F := fun (b : Bp) (k : CV → OR) => forceN off fun off => forceN len fun len => forceN cap fun cap => forceN gr fun gr => k (.slice b off len cap gr)) (Hands.optB (g.get b)) fun q hq => Hands.mk (CV.slice q off len cap gr) (fun k => by rw [forceN_eq, forceN_eq, forceN_eq, forceN_eq]) fun ρ ρ' hm x h => ?_
    cases h with
    | slice _ _ _ _ r sz h => exact .slice _ _ _ _ _ _ (hm b q _ hq h)
    | sliceG _ _ off' _ _ cap' _ r sz h h1 h2 h3 h4 h5 => exact .sliceG _ _ _ _ _ _ _ _ _ (hm b q _ hq h) h1 h2 h3 h4 h5
  · exact Hands.mk _ (fun _ => rfl) (fun ρ ρ' _ x h => by cases h; exact .nilmap)
  · intro b
    refine Hands.bind (F := fun (b : Bp) (k : CV → OR) => k (.map b)) (Hands.optB (g.get b)) fun q hq => Hands.mk (CV.map q) (fun k => rfl) fun ρ ρ' hm x h => ?_
    cases h
    exact .map _ _ _ (hm b q _ hq (by assumption))
  · intro f a c ia ic
    refine Hands.bind (F := fun (a : Segs CV) (k : CV → OR) => renS g c fun c => k (.func f a c)) ia fun a' ha => Hands.bind (F := fun (c : Segs CV) (k : CV → OR) => k (.func f a' c)) ic fun c' hc => Hands.mk (CV.func f a' c') (fun k => rfl) fun ρ ρ' hm x h => ?_
    cases h with
    | func _ _ _ fl cl hf hc' h1 h2 =>
      have e1 := ha.2 ρ ρ' hm fl ⟨hf, h1⟩
      have e2 := hc.2 ρ ρ' hm cl ⟨hc', h2⟩
      exact .func _ _ _ _ _ e1.len e2.len e1.at' e2.at'
  · exact Hands.mk _ (fun _ => rfl) (fun ρ ρ' _ x h => by cases h; exact .nilfunc)
  · intro t v iv
    refine Hands.bind (f := forceN t) (p := fun t' => t' = t) (F := fun (t : Nat) (k : CV → OR) => renK g v fun v => k (.iface t v)) (Hands.mk t (fun k => forceN_eq t k) rfl) fun t' ht => ?_
    subst ht
    refine Hands.bind (F := fun (v : CV) (k : CV → OR) => k (.iface t' v)) iv fun v' hv => Hands.mk (CV.iface t' v') (fun k => rfl) fun ρ ρ' hm x h => ?_
    cases h with
    | iface _ _ y h => exact .iface _ _ _ (hv ρ ρ' hm _ h)
  · exact Hands.mk _ (fun _ => rfl) (fun ρ ρ' _ x h => by cases h; exact .niliface)
  · intro s is
    refine Hands.bind (F := fun (s : Segs CV) (k : CV → OR) => k (.agg s)) is fun s' hs => Hands.mk (CV.agg s') (fun k => rfl) fun ρ ρ' hm x h => ?_
    cases h with
    | agg _ l hl h => exact VR.agg' (hs.2 ρ ρ' hm l ⟨hl, h⟩)
  · intro s is
    refine Hands.bind (F := fun (s : Segs CV) (k : CV → OR) => k (.tuple s)) is fun s' hs => Hands.mk (CV.tuple s') (fun k => rfl) fun ρ ρ' hm x h => ?_
    cases h with
    | tuple _ l hl h => exact VR.tuple' (hs.2 ρ ρ' hm l ⟨hl, h⟩)
  · intro n; exact Hands.mk (CV.atleast n) (fun k => forceN_eq n fun n => k (.atleast n)) (fun ρ ρ' _ x h => by cases h; exact .atleast _ _ (by assumption))
  · exact renS_nil g
  · exact fun v r iv ir => renS_one g v r iv ir
  · exact fun n val r ir => renS_bytes g n val r ir
theorem renS_ok (g : PT Bp) (s : Segs CV) : Hands (renS g s) (RSx g s) := by
  induction s with
  | nil => exact renS_nil g
  | one v r ih => exact renS_one g v r (renK_ok g v) ih
  | bytes n val r ih => exact renS_bytes g n val r ih
theorem renK_flat1 (g : PT Bp) {v : CV} (h : flatC v = true) (k : CV → OR) : renK g v k = k v := by
  cases v <;> first | (cases h; done) | skip
  · exact forceBool_eq _ fun b => k (.bool b)
  · exact forceZ_eq _ fun n => k (.int _ n)
  · show forceN _ (fun a => forceN _ fun b => k (.str a b)) = _
    rw [forceN_eq, forceN_eq]
  all_goals rfl
theorem renS_flat (g : PT Bp) {s : Segs CV} (h : flatS s = true) (k : Segs CV → OR) : renS g s k = k s := by
  induction s generalizing k with
  | nil => rfl
  | one v r ih =>
    have h : Bool.and (flatC v) (flatS r) = true := h
    rw [Bool.and_eq_true] at h
    show renK g v (fun v => renS g r fun r => k (.one v r)) = _
    rw [renK_flat1 g h.1, ih h.2]
  | bytes n val r ih =>
    have h : flatS r = true := h
    show forceN n (fun n => forceN val fun val => renS g r fun r => k (.bytes n val r)) = _
    rw [forceN_eq, forceN_eq, ih h]
theorem renK_flat (g : PT Bp) {v : CV} (h : flatV v = true) (k : CV → OR) : renK g v k = k v := by
  cases v <;> first | (cases h; done) | skip
  · rfl
  · exact forceBool_eq _ fun b => k (.bool b)
  · exact forceZ_eq _ fun n => k (.int _ n)
  · show forceN _ (fun a => forceN _ fun b => k (.str a b)) = _
    rw [forceN_eq, forceN_eq]
  iterate 5 rfl
  · rename_i s
    show renS g s (fun s => k (.agg s)) = _
    rw [renS_flat g h]

noncomputable def renE (g : PT Bp) (es : List Ent) : (List Ent → OR) → OR :=
  List.rec (motive := fun _ => (List Ent → OR) → OR) (fun k => k []) (fun e _ ih k => renK g e.1 fun a => renK g e.2.1 fun b => forceN e.2.2 fun n => ih fun r => k ((a, b, n) :: r)) es
def REx (g : PT Bp) (es es' : List Ent) : Prop := es.length = es'.length ∧ ∀ (i : Nat) (e e' : Ent), es[i]? = some e → es'[i]? = some e' → RVx g e.1 e'.1 ∧ RVx g e.2.1 e'.2.1 ∧ e'.2.2 = e.2.2
theorem renE_ok (g : PT Bp) (es : List Ent) : Hands (renE g es) (REx g es) := by
  induction es with
  | nil => exact Hands.mk [] (fun _ => rfl) ⟨rfl, fun i e e' a => by simp at a⟩
  | cons e es ih =>
    refine Hands.bind (F := fun (a : CV) (k : List Ent → OR) => renK g e.2.1 fun b => forceN e.2.2 fun n => renE g es fun r => k ((a, b, n) :: r)) (renK_ok g e.1) fun a ha => ?_
    refine Hands.bind (F := fun (b : CV) (k : List Ent → OR) => forceN e.2.2 fun n => renE g es fun r => k ((a, b, n) :: r)) (renK_ok g e.2.1) fun b hb => ?_
    refine Hands.bind (f := forceN e.2.2) (p := fun t' => t' = e.2.2) (F := fun (n : Nat) (k : List Ent → OR) => renE g es fun r => k ((a, b, n) :: r)) (Hands.mk _ (fun k => forceN_eq _ k) rfl) fun n hn => ?_
    refine Hands.bind (F := fun (r : List Ent) (k : List Ent → OR) => k ((a, b, n) :: r)) ih fun r hr => Hands.mk ((a, b, n) :: r) (fun _ => rfl) ⟨by simp [hr.1], fun i x x' h1 h2 => ?_⟩
    cases i with
    | zero => simp only [List.getElem?_cons_zero, Option.some.injEq] at h1 h2; subst h1; subst h2; exact ⟨ha, hb, hn⟩
    | succ i => simp only [List.getElem?_cons_succ] at h1 h2; exact hr.2 i x x' h1 h2
theorem renE_flat (g : PT Bp) {es : List Ent} (h : ∀ e ∈ es, flatV e.1 = true ∧ flatV e.2.1 = true) (k : List Ent → OR) : renE g es k = k es := by
  induction es generalizing k with
  | nil => rfl
  | cons e es ih =>
    show renK g e.1 (fun a => renK g e.2.1 fun b => forceN e.2.2 fun n => renE g es fun r => k ((a, b, n) :: r)) = _
    have h1 := h e (List.mem_cons_self ..)
    rw [renK_flat g h1.1, renK_flat g h1.2, forceN_eq, ih (fun e he => h e (List.mem_cons_of_mem _ he))]
noncomputable def renB (g : PT Bp) (b : Blk) : (Blk → OR) → OR :=
  Blk.rec (motive := fun _ => (Blk → OR) → OR) (fun s t gr k => renS g s fun s => forceN t fun t => forceBool gr fun gr => k (.cells s t gr)) (fun es c k => renE g es fun es => forceN c fun c => k (.map es c))
    (fun es k => bsel (allL es fun e => Bool.and (flatV e.1) (flatV e.2.1)) (renE g es fun es => k (.lmap es)) .bad) b
def RBx (g : PT Bp) (b b' : Blk) : Prop := ∀ ρ ρ', Maps g ρ ρ' → ∀ o sz, BR ρ b o sz → BR ρ' b' o sz
theorem renB_ok (g : PT Bp) (b : Blk) : Hands (renB g b) (RBx g b) := by
  cases b with
  | cells s t gr =>
    refine Hands.bind (F := fun (s : Segs CV) (k : Blk → OR) => forceN t fun t => forceBool gr fun gr => k (.cells s t gr)) (renS_ok g s) fun s' hs => Hands.mk (Blk.cells s' t gr) (fun k => ?_) fun ρ ρ' hm o sz h => ?_
    · rw [forceN_eq, forceBool_eq]
    · cases h with
      | cells _ _ _ c lo hi hlen hc hf hg =>
        have := hs.2 ρ ρ' hm _ hc
        exact .cells _ _ _ c lo hi (by rw [hs.1]; exact hlen) (by rw [hs.1]; exact this) hf hg
  | map es clock =>
    refine Hands.bind (F := fun (es : List Ent) (k : Blk → OR) => forceN clock fun c => k (.map es c)) (renE_ok g es) fun es' hs => Hands.mk (Blk.map es' clock) (fun k => forceN_eq _ fun c => k (.map es' c)) fun ρ ρ' hm o sz h => ?_
    cases h with
    | map _ _ l hl h =>
      refine .map es' clock l (hs.1.symm.trans hl) (fun i e e' a b => ?_) _
      have hi : i < es.length := by rw [hs.1]; exact (List.getElem?_eq_some_iff.1 a).1
      have h0 := h i es[i] e' (List.getElem?_eq_getElem hi) b
      have h1 := hs.2 i es[i] e (List.getElem?_eq_getElem hi) a
      exact ⟨h1.1 ρ ρ' hm _ h0.1, h1.2.1 ρ ρ' hm _ h0.2.1, h1.2.2.trans h0.2.2⟩
  | lmap es =>
    by_cases hf : (allL es fun e => Bool.and (flatV e.1) (flatV e.2.1)) = true
    · have hall : ∀ e ∈ es, flatV e.1 = true ∧ flatV e.2.1 = true := fun e he => by
        have := allL_iff.1 hf e he
        rwa [Bool.and_eq_true] at this
      refine Hands.mk (Blk.lmap es) (fun k => ?_) fun ρ ρ' hm o sz h => ?_
      · show bsel (allL es fun e => Bool.and (flatV e.1) (flatV e.2.1)) (renE g es fun es => k (.lmap es)) .bad = _
        rw [bsel_eq, if_pos hf, renE_flat g hall]
      · cases h with
        | lmap _ l clock es' hp hi hn hs hl h =>
          refine .lmap es l clock es' hp hi hn hs hl (fun i e e' a b => ?_) _
          have h0 := h i e e' a b
          have h1 := hall e (hp.mem_iff.1 (List.mem_of_getElem? a))
          exact ⟨flatV_VR h1.1 h0.1, flatV_VR h1.2 h0.2⟩
    · refine .inl fun k => ?_
      show bsel (allL es fun e => Bool.and (flatV e.1) (flatV e.2.1)) (renE g es fun es => k (.lmap es)) .bad = _
      rw [bsel_eq, if_neg hf]
noncomputable def renL (g : PT Bp) (l : List CV) : (List CV → OR) → OR := List.rec (motive := fun _ => (List CV → OR) → OR) (fun k => k []) (fun v _ ih k => renK g v fun v => ih fun r => k (v :: r)) l
theorem renL_ok (g : PT Bp) (l : List CV) : Hands (renL g l) (fun l' => ∀ ρ ρ', Maps g ρ ρ' → ∀ x, VRs ρ l x → VRs ρ' l' x) := by
  induction l with
  | nil => exact Hands.mk [] (fun _ => rfl) fun ρ ρ' _ x h => ⟨h.len, fun i v v' a => by simp at a⟩
  | cons v l ih =>
    refine Hands.bind (F := fun (v : CV) (k : List CV → OR) => renL g l fun r => k (v :: r)) (renK_ok g v) fun v' hv => ?_
    refine Hands.bind (F := fun (r : List CV) (k : List CV → OR) => k (v' :: r)) ih fun r hr => Hands.mk (v' :: r) (fun _ => rfl) fun ρ ρ' hm x h => ?_
    obtain ⟨y, t, rfl, h1, h2⟩ := h.inv
    exact VRs.cons (hv ρ ρ' hm y h1) (hr ρ ρ' hm t h2)

/- memories -/
noncomputable def buildM (g : PT Bp) (src : PT Blk) (acc : List Bp) : PT Blk → (PT Blk → OR) → OR :=
  List.rec (motive := fun _ => PT Blk → (PT Blk → OR) → OR) (fun M k => k M)
    (fun b _ ih M k => optB (g.get b) fun i => Option.rec (motive := fun _ => OR) (PT.force (M.put i none) fun M => ih M k) (fun blk => renB g blk fun blk => PT.force (M.put i (some blk)) fun M => ih M k) (src.get b)) acc
def ROx (g : PT Bp) (x y : Option Blk) : Prop := (x = none ∧ y = none) ∨ ∃ b b', x = some b ∧ y = some b' ∧ RBx g b b'
def Built (g : PT Bp) (src : PT Blk) (acc : List Bp) (M M' : PT Blk) : Prop := ∀ i, (∃ b, b ∈ acc ∧ g.get b = some i ∧ ROx g (src.get b) (M'.get i)) ∨ ((∀ b ∈ acc, g.get b ≠ some i) ∧ M'.get i = M.get i)
theorem buildM_ok (g : PT Bp) (src : PT Blk) (acc : List Bp) : ∀ M, Hands (buildM g src acc M) (Built g src acc M) := by
  induction acc with
  | nil => exact fun M => Hands.mk M (fun _ => rfl) fun i => .inr ⟨fun _ h => absurd h List.not_mem_nil, rfl⟩
  | cons b acc ih =>
    intro M
    have key : ∀ (i : Bp) (x : Option Blk) (hi : g.get b = some i), ROx g (src.get b) x → Hands (fun k => PT.force (M.put i x) fun M => buildM g src acc M k) (Built g src (b :: acc) M) := by
      intro i x hi hx
      rcases ih (M.put i x) with h | ⟨M', h, hb⟩
      · exact .inl fun k => (PT.force_eq _ _).trans (h k)
      · refine Hands.mk M' (fun k => (PT.force_eq _ _).trans (h k)) fun j => ?_
        rcases hb j with ⟨c, hc, h1, h2⟩ | ⟨h1, h2⟩
        · exact .inl ⟨c, List.mem_cons_of_mem _ hc, h1, h2⟩
        · by_cases e : j = i
          · subst e
            rw [PT.get_put_same] at h2
            exact .inl ⟨b, List.mem_cons_self .., hi, by rw [h2]; exact hx⟩
          · rw [PT.get_put_ne _ _ _ _ e] at h2
            refine .inr ⟨fun c hc => ?_, h2⟩
            rcases List.mem_cons.1 hc with rfl | hc
            · rw [hi]; intro e'; cases e'; exact e rfl
            · exact h1 c hc
    refine Hands.bind (F := fun (i : Bp) (k : PT Blk → OR) => Option.rec (motive := fun _ => OR) (PT.force (M.put i none) fun M => buildM g src acc M k) (fun blk => renB g blk fun blk => PT.force (M.put i (some blk)) fun M => buildM g src acc M k) (src.get b)) (Hands.optB (g.get b)) fun i hi => ?_
    cases hs : src.get b with
    | none => exact key i none hi (.inl ⟨hs, rfl⟩)
    | some blk => exact Hands.bind (F := fun (blk : Blk) (k : PT Blk → OR) => PT.force (M.put i (some blk)) fun M => buildM g src acc M k) (renB_ok g blk) fun blk' hb => key i (some blk') hi (.inr ⟨blk, blk', hs, rfl, hb⟩)

noncomputable def onO (r : OR) (k : CV → St → OR) : OR := OR.rec (motive := fun _ => OR) (fun v s => k v s) .bad r
noncomputable def reloB (σ : VS) (next : Bp) (mem : PT Blk) (v : CV) (ms : PT Blk) (nx : Bp) : OR :=
  forceN nx.dec fun m => visV m v ⟨σ.h, σ.g, next, σ.img, σ.img, σ.acc⟩ fun τ => visLoop m ms 100000 τ fun τ => renK τ.g v fun v => buildM τ.g ms τ.acc mem fun M => .ok v ⟨M, τ.n⟩
noncomputable def reloA (F : FunX) (call : CallF) (args : List CV) (st : St) : OR :=
  forceN st.next.dec fun m => visL m args ⟨PT.nil, PT.nil, Bp.e, [], [], []⟩ fun σ => visLoop m st.mem 100000 σ fun σ => renL σ.g args fun args => buildM σ.g st.mem σ.acc PT.nil fun small =>
    onO (F call args ⟨small, σ.n⟩) fun v s => PT.force s.mem fun ms => reloB σ st.next st.mem v ms s.next
noncomputable def reloG (F : FunX) : FunX := fun call args st => OR.rec (motive := fun _ => OR) (fun v s => .ok v s) (F call args st) (reloA F call args st)

section
variable {P : Program} {f : Nat}
theorem onO_ok {r : OR} {k : CV → St → OR} {v : CV} {st : St} (h : onO r k = .ok v st) : ∃ v1 s1, r = .ok v1 s1 ∧ k v1 s1 = .ok v st := by
  cases r with
  | bad => cases h
  | ok v1 s1 => exact ⟨v1, s1, rfl, h⟩
theorem Hands.run {α : Type} {f : (α → OR) → OR} {p : α → Prop} (h : Hands f p) {k : α → OR} {v : CV} {st : St} (hr : f k = .ok v st) : ∃ a, p a ∧ k a = .ok v st := by
  rcases h with h | ⟨a, h, hp⟩
  · rw [h] at hr; cases hr
  · rw [h] at hr; exact ⟨a, hp, hr⟩
theorem VOK.run {m : Nat} {f : VK} (h : VOK m f) {σ : VS} {k : VS → OR} {v : CV} {st : St} (hr : f σ k = .ok v st) : ∃ σ', Ext m σ σ' ∧ k σ' = .ok v st := by
  rcases h σ k with e | ⟨σ', e, hx⟩
  · rw [e] at hr; cases hr
  · rw [e] at hr; exact ⟨σ', hx, hr⟩
theorem ROx.some {g : PT Bp} {x : Option Blk} {b' : Blk} (h : ROx g x (some b')) : ∃ b, x = some b ∧ RBx g b b' := by
  rcases h with ⟨_, h⟩ | ⟨b, c, h1, h2, h3⟩
  · cases h
  · cases h2; exact ⟨b, h1, h3⟩
noncomputable def renBack (h : PT Bp) (ρ ρs : Ren) : Ren := fun B => Option.rec (motive := fun _ => Option (Nat × Nat)) (ρ B) (fun q => ρs q) (h.get B)
theorem reloA_ok {F : FunX} {call : CallF} (hF : ∀ args st v st', F call args st = .ok v st' → callable P f = true ∧ CallOK P f args st v st') {args : List CV} {st : St} {v : CV} {st' : St} (h : reloA F call args st = .ok v st') : callable P f = true ∧ CallOK P f args st v st' := by
  unfold reloA at h
  rw [forceN_eq] at h
  obtain ⟨σ0, x0, h⟩ := (visL_ok _ _).run h
  obtain ⟨σ, x1, h⟩ := (visLoop_ok _ _ _).run h
  obtain ⟨args1, hargs, h⟩ := (renL_ok _ _).run h
  obtain ⟨small, hsmall, h⟩ := (buildM_ok _ _ _ _).run h
  obtain ⟨v1, s1, hrun, h⟩ := onO_ok h
  rw [PT.force_eq] at h
  unfold reloB at h
  rw [forceN_eq] at h
  obtain ⟨τ0, y0, h⟩ := (visV_ok _ _).run h
  obtain ⟨τ, y1, h⟩ := (visLoop_ok _ _ _).run h
  obtain ⟨v2, hv2, h⟩ := (renK_ok _ _).run h
  obtain ⟨M, hM, h⟩ := (buildM_ok _ _ _ _).run h
  cases h
  obtain ⟨hcall, hok⟩ := hF _ _ _ _ hrun
  have gσ : Good st.next.dec σ := (x0.trans x1).good ⟨fun b i h => absurd h (by rw [PT.get_nil]; exact fun e => nomatch e), fun b i h => absurd h (by rw [PT.get_nil]; exact fun e => nomatch e), fun b i h => absurd h (by rw [PT.get_nil]; exact fun e => nomatch e), fun b i h => absurd h (by rw [PT.get_nil]; exact fun e => nomatch e), fun b i h => absurd h (by rw [PT.get_nil]; exact fun e => nomatch e), fun b i h => absurd h (by rw [PT.get_nil]; exact fun e => nomatch e)⟩
  have y := y0.trans y1
  refine ⟨hcall, fun ρ w args' hw ha => ?_⟩
  have hmap : Maps σ.g ρ (renBack σ.h noRen ρ) := fun b q y h1 h2 => by
    show Option.rec (motive := fun _ => Option (Nat × Nat)) _ _ (σ.h.get q) = _
    rw [gσ.gh b q h1]; exact h2
  have hρs : ∀ i x, renBack σ.h noRen ρ i = some x → ∃ b, σ.h.get i = some b ∧ ρ b = some x := fun i x hx => by
    have hx : Option.rec (motive := fun _ => Option (Nat × Nat)) (noRen i) (fun q => ρ q) (σ.h.get i) = some x := hx
    cases hh : σ.h.get i with
    | none => rw [hh] at hx; cases hx
    | some b => rw [hh] at hx; exact ⟨b, rfl, hx⟩
  have hsrc : ∀ i blk, small.get i = some blk → ∃ b blk0, σ.g.get b = some i ∧ st.mem.get b = some blk0 ∧ RBx σ.g blk0 blk := fun i blk hi => by
    rcases hsmall i with ⟨b, _, h1, h2⟩ | ⟨_, h2⟩
    · rw [hi] at h2
      obtain ⟨blk0, h3, h4⟩ := h2.some
      exact ⟨b, blk0, h1, h3, h4⟩
    · rw [hi, PT.get_nil] at h2; cases h2
  have hws : WR (renBack σ.h noRen ρ) ⟨small, σ.n⟩ w := by
    have hor : ∀ i blk r sz, small.get i = some blk → renBack σ.h noRen ρ i = some (r, sz) → (∃ b0 blk0 sz0, st.mem.get b0 = some blk0 ∧ ρ b0 = some (r, sz0)) ∨ w.heap.size ≤ r := fun i blk r sz h1 h2 => by
      obtain ⟨b, blk0, g1, g2, g3⟩ := hsrc i blk h1
      obtain ⟨b', g4, g5⟩ := hρs i _ h2
      rw [gσ.gh b i g1] at g4; cases g4
      exact .inl ⟨b, blk0, sz, g2, g5⟩
    refine ⟨fun i blk r sz h1 h2 => ?_, fun i i' blk blk' r sz sz' h1 h2 h3 h4 => ?_, fun i x hx => ?_, hw.glob.keep hor (fun _ _ _ => rfl)⟩
    · obtain ⟨b, blk0, g1, g2, g3⟩ := hsrc i blk h1
      obtain ⟨b', g4, g5⟩ := hρs i _ h2
      rw [gσ.gh b i g1] at g4; cases g4
      obtain ⟨o, ho, hb⟩ := hw.at' b blk0 r sz g2 g5
      exact ⟨o, ho, g3 ρ _ hmap o sz hb⟩
    · obtain ⟨b, blk0, g1, g2, g3⟩ := hsrc i blk h1
      obtain ⟨b', g4, g5⟩ := hρs i _ h3
      rw [gσ.gh b i g1] at g4; cases g4
      obtain ⟨c, blk1, k1, k2, k3⟩ := hsrc i' blk' h2
      obtain ⟨c', k4, k5⟩ := hρs i' _ h4
      rw [gσ.gh c i' k1] at k4; cases k4
      have := hw.inj b c blk0 blk1 r sz sz' g2 k2 g5 k5
      subst this
      rw [g1] at k1; cases k1; rfl
    · obtain ⟨b', g4, g5⟩ := hρs i _ hx
      exact gσ.lt b' i (gσ.hg b' i g4)
  refine (hok _ w args' hws (hargs ρ _ hmap _ ha)).mono ?_
  rintro e w' ⟨x, ρs', rfl, hvx, hA⟩
  have gτ : Good s1.next.dec τ := y.good ⟨fun i b h => gσ.hg b i h, fun i b h => gσ.gh b i h, fun i b h => gσ.bd b i (gσ.hg b i h), fun i b h => Nat.lt_of_lt_of_le (gσ.lt b i (gσ.hg b i h)) hA.next, fun i b h => gσ.img b i (gσ.hg b i h), fun i b h => gσ.acc b i (gσ.hg b i h)⟩
  have yn : st.next.dec ≤ τ.n.dec := y.le
  have ynew : ∀ q B, τ.g.get q = some B → σ.h.get q = some B ∨ st.next.dec ≤ B.dec := fun q B h => y.new q B h
  have ykeep : ∀ q B, σ.h.get q = some B → τ.g.get q = some B := fun q B h => y.keep q B h
  have hback : ∀ B q, τ.h.get B = some q → renBack τ.h ρ ρs' B = ρs' q := fun B q h => by
    show Option.rec (motive := fun _ => Option (Nat × Nat)) _ _ (τ.h.get B) = _
    rw [h]
  have hback0 : ∀ B, τ.h.get B = none → renBack τ.h ρ ρs' B = ρ B := fun B h => by
    show Option.rec (motive := fun _ => Option (Nat × Nat)) _ _ (τ.h.get B) = _
    rw [h]
  have hmap2 : Maps τ.g ρs' (renBack τ.h ρ ρs') := fun q B y h1 h2 => by rw [hback B q (gτ.gh q B h1)]; exact h2
  have hlow : ∀ B q, B.dec < st.next.dec → τ.h.get B = some q → σ.h.get q = some B := fun B q hB h => by
    rcases ynew q B (gτ.hg q B h) with e | e
    · exact e
    · omega
  have hsub : ∀ i b, σ.h.get i = some b → renBack σ.h noRen ρ i = ρ b := fun i b h => by
    show Option.rec (motive := fun _ => Option (Nat × Nat)) _ _ (σ.h.get i) = _
    rw [h]
  have hle : ρ.le (renBack τ.h ρ ρs') := fun B y hy => by
    cases hh : τ.h.get B with
    | none => rw [hback0 B hh]; exact hy
    | some q =>
      rw [hback B q hh]
      refine hA.ext q y ?_
      rw [hsub q B (hlow B q (hw.fresh B y hy) hh)]; exact hy
  have hsz : ∀ B blk r sz, st.mem.get B = some blk → ρ B = some (r, sz) → r < w.heap.size := fun B blk r sz h1 h2 => by
    obtain ⟨o, e2, _⟩ := hw.at' B blk r sz h1 h2
    exact (Array.getElem?_eq_some_iff.1 e2).1
  have hup : ∀ i blk r sz, small.get i = some blk → renBack σ.h noRen ρ i = some (r, sz) → ∃ b blk0, st.mem.get b = some blk0 ∧ ρ b = some (r, sz) ∧ σ.g.get b = some i := fun i blk r sz h1 h2 => by
    obtain ⟨b, blk0, g1, g2, g3⟩ := hsrc i blk h1
    rw [hsub i b (gσ.gh b i g1)] at h2
    exact ⟨b, blk0, g2, h2, g1⟩
  have hsel : ∀ B blk, M.get B = some blk → (∃ q blk1, τ.h.get B = some q ∧ s1.mem.get q = some blk1 ∧ RBx τ.g blk1 blk) ∨ (τ.h.get B = none ∧ st.mem.get B = some blk) := fun B blk hB => by
    rcases hM B with ⟨q, _, h1, h2⟩ | ⟨h1, h2⟩
    · rw [hB] at h2
      obtain ⟨blk1, h3, h4⟩ := h2.some
      exact .inl ⟨q, blk1, gτ.gh q B h1, h3, h4⟩
    · refine .inr ⟨?_, by rw [← h2]; exact hB⟩
      cases hh : τ.h.get B with
      | none => rfl
      | some q =>
        have := gτ.hg q B hh
        exact absurd this (h1 q (gτ.acc q B this))
  have hor : ∀ B blk r sz, M.get B = some blk → renBack τ.h ρ ρs' B = some (r, sz) → (∃ b0 blk0 sz0, st.mem.get b0 = some blk0 ∧ ρ b0 = some (r, sz0)) ∨ w.heap.size ≤ r := fun B blk r sz h1 h2 => by
    rcases hsel B blk h1 with ⟨q, blk1, g1, g2, g3⟩ | ⟨g1, g2⟩
    · rw [hback B q g1] at h2
      rcases hA.origin q blk1 r sz g2 h2 with ⟨i, blk0, sz0, m1, m2⟩ | m
      · obtain ⟨b, blk3, m3, m4, m5⟩ := hup i blk0 r sz0 m1 m2
        exact .inl ⟨b, blk3, sz0, m3, m4⟩
      · exact .inr m
    · rw [hback0 B g1] at h2
      exact .inl ⟨B, blk, sz, g2, h2⟩
  have hkp : ∀ r : Nat, r < w.heap.size → (∀ b blk sz, st.mem.get b = some blk → ρ b ≠ some (r, sz)) → w'.heap[r]? = w.heap[r]? := fun r hr hk => by
    refine hA.kept r hr fun i blk0 sz0 k1 k2 => ?_
    obtain ⟨b, blk1, k3, k4, k5⟩ := hup i blk0 r sz0 k1 k2
    exact hk b blk1 sz0 k3 k4
  refine ⟨x, renBack τ.h ρ ρs', rfl, hv2 ρs' _ hmap2 x hvx, ⟨⟨fun B blk r sz h1 h2 => ?_, fun B B' blk blk' r sz sz' h1 h2 h3 h4 => ?_, fun B x hx => ?_, hw.glob.keep hor hkp⟩, hle, fun B hB hn => ?_, yn, hor, hkp, hA.size, hA.os, hA.output⟩⟩
  · rcases hsel B blk h1 with ⟨q, blk1, g1, g2, g3⟩ | ⟨g1, g2⟩
    · rw [hback B q g1] at h2
      obtain ⟨o, ho, hb⟩ := hA.wr.at' q blk1 r sz g2 h2
      exact ⟨o, ho, g3 ρs' _ hmap2 o sz hb⟩
    · rw [hback0 B g1] at h2
      obtain ⟨o, ho, hb⟩ := hw.at' B blk r sz g2 h2
      refine ⟨o, ?_, hb.mono hle⟩
      rw [hA.kept r (hsz B blk r sz g2 h2) fun i blk0 sz0 k1 k2 => ?_]
      · exact ho
      · obtain ⟨b, blk1, k3, k4, k5⟩ := hup i blk0 r sz0 k1 k2
        have := hw.inj B b blk blk1 r sz sz0 g2 k3 h2 k4
        subst this
        have := gτ.gh i B (ykeep i B (gσ.gh B i k5))
        rw [g1] at this; cases this
  · rcases hsel B blk h1 with ⟨q, blk1, g1, g2, g3⟩ | ⟨g1, g2⟩
    · rw [hback B q g1] at h3
      rcases hsel B' blk' h2 with ⟨q', blk2, k1, k2, k3⟩ | ⟨k1, k2⟩
      · rw [hback B' q' k1] at h4
        have := hA.wr.inj q q' blk1 blk2 r sz sz' g2 k2 h3 h4
        subst this
        have e1 := gτ.hg q B g1
        have e2 := gτ.hg q B' k1
        rw [e1] at e2; cases e2; rfl
      · rw [hback0 B' k1] at h4
        rcases hA.origin q blk1 r sz g2 h3 with ⟨i, blk0, sz0, m1, m2⟩ | m
        · obtain ⟨b, blk3, m3, m4, m5⟩ := hup i blk0 r sz0 m1 m2
          have := hw.inj B' b blk' blk3 r sz' sz0 k2 m3 h4 m4
          subst this
          have := gτ.gh i B' (ykeep i B' (gσ.gh B' i m5))
          rw [k1] at this; cases this
        · have := hsz B' blk' r sz' k2 h4; omega
    · rw [hback0 B g1] at h3
      rcases hsel B' blk' h2 with ⟨q', blk2, k1, k2, k3⟩ | ⟨k1, k2⟩
      · rw [hback B' q' k1] at h4
        rcases hA.origin q' blk2 r sz' k2 h4 with ⟨i, blk0, sz0, m1, m2⟩ | m
        · obtain ⟨b, blk3, m3, m4, m5⟩ := hup i blk0 r sz0 m1 m2
          have := hw.inj B b blk blk3 r sz sz0 g2 m3 h3 m4
          subst this
          have := gτ.gh i B (ykeep i B (gσ.gh B i m5))
          rw [g1] at this; cases this
        · have := hsz B blk r sz g2 h3; omega
      · rw [hback0 B' k1] at h4
        exact hw.inj B B' blk blk' r sz sz' g2 k2 h3 h4
  · show B.dec < τ.n.dec
    cases hh : τ.h.get B with
    | none => rw [hback0 B hh] at hx; have := hw.fresh B x hx; omega
    | some q => exact gτ.lt q B (gτ.hg q B hh)
  · cases hh : τ.h.get B with
    | none => rw [hback0 B hh]; exact hn
    | some q =>
      rw [hback B q hh]
      have h5 := hlow B q hB hh
      exact hA.dom q (gσ.lt B q (gσ.hg B q h5)) (by rw [hsub q B h5]; exact hn)
theorem reloG_ok {F : FunX} {call : CallF} (hF : ∀ args st v st', F call args st = .ok v st' → callable P f = true ∧ CallOK P f args st v st') {args : List CV} {st : St} {v : CV} {st' : St} (h : reloG F call args st = .ok v st') : callable P f = true ∧ CallOK P f args st v st' := by
  unfold reloG at h
  cases hr : reloA F call args st with
  | bad => rw [hr] at h; exact hF _ _ _ _ h
  | ok v1 s1 => rw [hr] at h; cases h; exact reloA_ok hF hr
end
end Sim
