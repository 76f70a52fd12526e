import Derived.Test.YtfojoloiahhphaaGreatDoorSimX1
/- Sim, part 31: operations as closures. (Printed by genx2.py.) -/
namespace Sim
open Go

inductive Rx where
  | norm (f : Fx) (st : St)
  | exit (id : Nat) (f : Fx) (st : St)
  | ret (f : Fx) (st : St)
  | bad
abbrev OpX := CallF → Fx → St → (CV → St → Rx) → Rx
abbrev StepX := CallF → Fx → St → (Fx → St → Rx) → Rx

theorem Bp.enc_dec (p : Bp) : Bp.enc p.dec = p := Bp.dec_inj _ _ (Bp.dec_enc _)
def ArgOK (x : CArg) (g : Fx → CV) : Prop := ∀ f fr, XR f fr → g f = ev fr x
noncomputable def argK {β : Type} (x : CArg) (k : (Fx → CV) → β) (bad : β) : β :=
  CArg.rec (motive := fun _ => β) (fun p => forceN p.dec fun i => xgetK i k bad) (fun v => forceV v fun v => k fun _ => v) x
theorem argK_eq {β : Type} (x : CArg) (k : (Fx → CV) → β) (bad : β) : (∃ g, ArgOK x g ∧ argK x k bad = k g) ∨ argK x k bad = bad := by
  cases x with
  | tmp p =>
    show (∃ g, ArgOK (.tmp p) g ∧ forceN p.dec (fun i => xgetK i k bad) = k g) ∨ forceN p.dec (fun i => xgetK i k bad) = bad
    rw [forceN_eq]
    rcases xgetK_eq p.dec k bad with ⟨hi, g, hg, e⟩ | ⟨_, e⟩
    · left
      refine ⟨g, fun f fr h => ?_, e⟩
      rw [hg f, h _ hi, Bp.enc_dec]
      rfl
    · exact .inr e
  | const v =>
    left
    refine ⟨fun _ => v, fun f fr h => rfl, ?_⟩
    show forceV v (fun v => k fun _ => v) = _
    rw [forceV_eq]
noncomputable def argsK {β : Type} (l : List CArg) : ((Fx → List CV) → β) → β → β :=
  List.rec (motive := fun _ => ((Fx → List CV) → β) → β → β) (fun k _ => k fun _ => []) (fun x _ ih k bad => argK x (fun g => ih (fun gl => k fun f => g f :: gl f) bad) bad) l
theorem argsK_eq {β : Type} : ∀ (l : List CArg) (k : (Fx → List CV) → β) (bad : β), (∃ g : Fx → List CV, (∀ f fr, XR f fr → g f = evL fr l) ∧ argsK l k bad = k g) ∨ argsK l k bad = bad := by
  intro l
  induction l with
  | nil => intro k bad; exact .inl ⟨fun _ => [], fun _ _ _ => rfl, rfl⟩
  | cons x l ih =>
    intro k bad
    show (∃ g : Fx → List CV, (∀ f fr, XR f fr → g f = evL fr (x :: l)) ∧ argK x (fun g => argsK l (fun gl => k fun f => g f :: gl f) bad) bad = k g) ∨ argK x (fun g => argsK l (fun gl => k fun f => g f :: gl f) bad) bad = bad
    rcases argK_eq x (fun g => argsK l (fun gl => k fun f => g f :: gl f) bad) bad with ⟨g, hg, e⟩ | e
    · rw [e]
      rcases ih (fun gl => k fun f => g f :: gl f) bad with ⟨gl, hgl, e2⟩ | e2
      · left
        refine ⟨fun f => g f :: gl f, fun f fr h => ?_, e2⟩
        show g f :: gl f = ev fr x :: evL fr l
        rw [hg f fr h, hgl f fr h]
      · exact .inr e2
    · exact .inr e
noncomputable def optK {β : Type} (x : Option CArg) (k : (Fx → Option CV) → β) (bad : β) : β :=
  Option.rec (motive := fun _ => β) (k fun _ => none) (fun x => argK x (fun g => k fun f => some (g f)) bad) x
theorem optK_eq {β : Type} (x : Option CArg) (k : (Fx → Option CV) → β) (bad : β) : (∃ g : Fx → Option CV, (∀ f fr, XR f fr → g f = evO fr x) ∧ optK x k bad = k g) ∨ optK x k bad = bad := by
  cases x with
  | none => exact .inl ⟨fun _ => none, fun _ _ _ => rfl, rfl⟩
  | some x =>
    rcases argK_eq x (fun g => k fun f => some (g f)) bad with ⟨g, hg, e⟩ | e
    · exact .inl ⟨_, fun f fr h => by show some (g f) = some (ev fr x); rw [hg f fr h], e⟩
    · exact .inr e
noncomputable def partsK {β : Type} (l : List PartA) : ((Fx → List Part) → β) → β → β :=
  List.rec (motive := fun _ => ((Fx → List Part) → β) → β → β) (fun k _ => k fun _ => []) (fun p _ ih k bad => argK p.2.2 (fun g => ih (fun gl => k fun f => (p.1, p.2.1, g f) :: gl f) bad) bad) l
theorem partsK_eq {β : Type} : ∀ (l : List PartA) (k : (Fx → List Part) → β) (bad : β), (∃ g : Fx → List Part, (∀ f fr, XR f fr → g f = evP fr l) ∧ partsK l k bad = k g) ∨ partsK l k bad = bad := by
  intro l
  induction l with
  | nil => intro k bad; exact .inl ⟨fun _ => [], fun _ _ _ => rfl, rfl⟩
  | cons p l ih =>
    intro k bad
    show (∃ g : Fx → List Part, (∀ f fr, XR f fr → g f = evP fr (p :: l)) ∧ argK p.2.2 (fun g => partsK l (fun gl => k fun f => (p.1, p.2.1, g f) :: gl f) bad) bad = k g) ∨ argK p.2.2 (fun g => partsK l (fun gl => k fun f => (p.1, p.2.1, g f) :: gl f) bad) bad = bad
    rcases argK_eq p.2.2 (fun g => partsK l (fun gl => k fun f => (p.1, p.2.1, g f) :: gl f) bad) bad with ⟨g, hg, e⟩ | e
    · rw [e]
      rcases ih (fun gl => k fun f => (p.1, p.2.1, g f) :: gl f) bad with ⟨gl, hgl, e2⟩ | e2
      · left
        refine ⟨fun f => (p.1, p.2.1, g f) :: gl f, fun f fr h => ?_, e2⟩
        show (p.1, p.2.1, g f) :: gl f = (p.1, p.2.1, ev fr p.2.2) :: evP fr l
        rw [hg f fr h, hgl f fr h]
      · exact .inr e2
    · exact .inr e

/-- What comes behind an operation: its value is written out; 'Q': the memory is the one that was there. -/
noncomputable def forceVR (v : CV) : (CV → Rx) → Rx := CV.rec (motive_1 := fun _ => (CV → Rx) → Rx) (motive_2 := fun _ => PUnit) (fun k => k .undef) (fun b => fun k => k (.bool b)) (fun q n => fun k => forceZ n fun n => k (.int q n)) (fun a b => fun k => forceN a fun a => forceN b fun b => k (.str a b)) (fun k => k .nilptr) (fun b off => fun k => forceN off fun off => k (.ptr b off)) (fun k => k .nilslice) (fun b off len cap g => fun k => forceN off fun off => forceN len fun len => forceN cap fun cap => forceN g fun g => k (.slice b off len cap g)) (fun k => k .nilmap) (fun b => fun k => k (.map b)) (fun f a c _ _ => fun k => k (.func f a c)) (fun k => k .nilfunc) (fun t v _ => fun k => k (.iface t v)) (fun k => k .niliface) (fun s _ => fun k => s.force fun s => k (.agg s)) (fun s _ => fun k => s.force fun s => k (.tuple s)) (fun n => fun k => forceN n fun n => k (.atleast n)) PUnit.unit (fun _ _ _ _ => PUnit.unit) (fun _ _ _ _ => PUnit.unit) v
theorem forceVR_eq (v : CV) (k : CV → Rx) : forceVR v k = k v := by cases v <;> simp only [forceVR, forceZ_eq, forceN_eq, Segs.force_eq]
noncomputable def thenQ (r : OR) (k : CV → St → Rx) : Rx := OR.rec (motive := fun _ => (CV → St → Rx) → Rx) (fun v st k => forceVR v fun v => k v st) (fun _ => .bad) r k
noncomputable def thenS (r : OR) (k : CV → St → Rx) : Rx := OR.rec (motive := fun _ => (CV → St → Rx) → Rx) (fun v st k => forceVR v fun v => forceS st fun st => k v st) (fun _ => .bad) r k
def upon (r : OR) (k : CV → St → Rx) : Rx := match r with | .ok v st => k v st | .bad => .bad
theorem thenQ_eq (r : OR) (k : CV → St → Rx) : thenQ r k = upon r k := by cases r <;> simp only [thenQ, upon, forceVR_eq]
theorem thenS_eq (r : OR) (k : CV → St → Rx) : thenS r k = upon r k := by cases r <;> simp only [thenS, upon, forceVR_eq, forceS_eq]

def OpOK (op : COp) (s : OpX) : Prop := ∀ call f fr st kk, XR f fr → s call f st kk = upon (runOp call op fr st) kk
noncomputable def x1 {β : Type} (a : CArg) (F : CV → St → OR) (k : OpX → β) (bad : β) : β := argK a (fun g => k fun _ f st kk => thenQ (F (g f) st) kk) bad
noncomputable def x2 {β : Type} (a b : CArg) (F : CV → CV → St → OR) (k : OpX → β) (bad : β) : β := argK a (fun g => argK b (fun h => k fun _ f st kk => thenQ (F (g f) (h f) st) kk) bad) bad
noncomputable def x1r {β : Type} (a : CArg) (F : CV → St → OR) (k : OpX → β) (bad : β) : β := argK a (fun g => k fun _ f st kk => OR.rec (motive := fun _ => Rx) kk .bad (F (g f) st)) bad
noncomputable def x2r {β : Type} (a b : CArg) (F : CV → CV → St → OR) (k : OpX → β) (bad : β) : β := argK a (fun g => argK b (fun h => k fun _ f st kk => OR.rec (motive := fun _ => Rx) kk .bad (F (g f) (h f) st)) bad) bad
noncomputable def x1s {β : Type} (a : CArg) (F : CV → St → OR) (k : OpX → β) (bad : β) : β := argK a (fun g => k fun _ f st kk => thenS (F (g f) st) kk) bad
noncomputable def x2s {β : Type} (a b : CArg) (F : CV → CV → St → OR) (k : OpX → β) (bad : β) : β := argK a (fun g => argK b (fun h => k fun _ f st kk => thenS (F (g f) (h f) st) kk) bad) bad
noncomputable def x3s {β : Type} (a b c : CArg) (F : CV → CV → CV → St → OR) (k : OpX → β) (bad : β) : β := argK a (fun g => argK b (fun h => argK c (fun j => k fun _ f st kk => thenS (F (g f) (h f) (j f) st) kk) bad) bad) bad
section
variable {β : Type} {k : OpX → β} {bad : β}
theorem x1_eq (a : CArg) (F : CV → St → OR) : (∃ s : OpX, (∀ call f fr st kk, XR f fr → s call f st kk = upon (F (ev fr a) st) kk) ∧ x1 a F k bad = k s) ∨ x1 a F k bad = bad := by
  unfold x1
  rcases argK_eq a (fun g => k fun _ f st kk => thenQ (F (g f) st) kk) bad with ⟨g, hg, e⟩ | e
  · exact .inl ⟨_, fun call f fr st kk h => by rw [thenQ_eq, hg f fr h], e⟩
  · exact .inr e
theorem thenR_eq (r : OR) (k : CV → St → Rx) : OR.rec (motive := fun _ => Rx) k .bad r = upon r k := by cases r <;> rfl
theorem x1r_eq (a : CArg) (F : CV → St → OR) : (∃ s : OpX, (∀ call f fr st kk, XR f fr → s call f st kk = upon (F (ev fr a) st) kk) ∧ x1r a F k bad = k s) ∨ x1r a F k bad = bad := by
  unfold x1r
  rcases argK_eq a (fun g => k fun _ f st kk => OR.rec (motive := fun _ => Rx) kk .bad (F (g f) st)) bad with ⟨g, hg, e⟩ | e
  · exact .inl ⟨_, fun call f fr st kk h => by rw [thenR_eq, hg f fr h], e⟩
  · exact .inr e
theorem x2r_eq (a b : CArg) (F : CV → CV → St → OR) : (∃ s : OpX, (∀ call f fr st kk, XR f fr → s call f st kk = upon (F (ev fr a) (ev fr b) st) kk) ∧ x2r a b F k bad = k s) ∨ x2r a b F k bad = bad := by
  unfold x2r
  rcases argK_eq a (fun g => argK b (fun h => k fun _ f st kk => OR.rec (motive := fun _ => Rx) kk .bad (F (g f) (h f) st)) bad) bad with ⟨g, hg, e⟩ | e
  · rw [e]
    rcases argK_eq b (fun h => k fun _ f st kk => OR.rec (motive := fun _ => Rx) kk .bad (F (g f) (h f) st)) bad with ⟨h, hh, e2⟩ | e2
    · exact .inl ⟨_, fun call f fr st kk hr => by rw [thenR_eq, hg f fr hr, hh f fr hr], e2⟩
    · exact .inr e2
  · exact .inr e
theorem x1s_eq (a : CArg) (F : CV → St → OR) : (∃ s : OpX, (∀ call f fr st kk, XR f fr → s call f st kk = upon (F (ev fr a) st) kk) ∧ x1s a F k bad = k s) ∨ x1s a F k bad = bad := by
  unfold x1s
  rcases argK_eq a (fun g => k fun _ f st kk => thenS (F (g f) st) kk) bad with ⟨g, hg, e⟩ | e
  · exact .inl ⟨_, fun call f fr st kk h => by rw [thenS_eq, hg f fr h], e⟩
  · exact .inr e
theorem x2_eq (a b : CArg) (F : CV → CV → St → OR) : (∃ s : OpX, (∀ call f fr st kk, XR f fr → s call f st kk = upon (F (ev fr a) (ev fr b) st) kk) ∧ x2 a b F k bad = k s) ∨ x2 a b F k bad = bad := by
  unfold x2
  rcases argK_eq a (fun g => argK b (fun h => k fun _ f st kk => thenQ (F (g f) (h f) st) kk) bad) bad with ⟨g, hg, e⟩ | e
  · rw [e]
    rcases argK_eq b (fun h => k fun _ f st kk => thenQ (F (g f) (h f) st) kk) bad with ⟨h, hh, e2⟩ | e2
    · exact .inl ⟨_, fun call f fr st kk hr => by rw [thenQ_eq, hg f fr hr, hh f fr hr], e2⟩
    · exact .inr e2
  · exact .inr e
theorem x2s_eq (a b : CArg) (F : CV → CV → St → OR) : (∃ s : OpX, (∀ call f fr st kk, XR f fr → s call f st kk = upon (F (ev fr a) (ev fr b) st) kk) ∧ x2s a b F k bad = k s) ∨ x2s a b F k bad = bad := by
  unfold x2s
  rcases argK_eq a (fun g => argK b (fun h => k fun _ f st kk => thenS (F (g f) (h f) st) kk) bad) bad with ⟨g, hg, e⟩ | e
  · rw [e]
    rcases argK_eq b (fun h => k fun _ f st kk => thenS (F (g f) (h f) st) kk) bad with ⟨h, hh, e2⟩ | e2
    · exact .inl ⟨_, fun call f fr st kk hr => by rw [thenS_eq, hg f fr hr, hh f fr hr], e2⟩
    · exact .inr e2
  · exact .inr e
theorem x3s_eq (a b c : CArg) (F : CV → CV → CV → St → OR) : (∃ s : OpX, (∀ call f fr st kk, XR f fr → s call f st kk = upon (F (ev fr a) (ev fr b) (ev fr c) st) kk) ∧ x3s a b c F k bad = k s) ∨ x3s a b c F k bad = bad := by
  unfold x3s
  rcases argK_eq a (fun g => argK b (fun h => argK c (fun j => k fun _ f st kk => thenS (F (g f) (h f) (j f) st) kk) bad) bad) bad with ⟨g, hg, e⟩ | e
  · rw [e]
    rcases argK_eq b (fun h => argK c (fun j => k fun _ f st kk => thenS (F (g f) (h f) (j f) st) kk) bad) bad with ⟨h, hh, e2⟩ | e2
    · rw [e2]
      rcases argK_eq c (fun j => k fun _ f st kk => thenS (F (g f) (h f) (j f) st) kk) bad with ⟨j, hj, e3⟩ | e3
      · exact .inl ⟨_, fun call f fr st kk hr => by rw [thenS_eq, hg f fr hr, hh f fr hr, hj f fr hr], e3⟩
      · exact .inr e3
    · exact .inr e2
  · exact .inr e
end

noncomputable def opXK {β : Type} (op : COp) : (OpX → β) → β → β := COp.rec (motive := fun _ => (OpX → β) → β → β)
  (fun x k bad => argK x (fun g => k fun _ f st kk => forceV (g f) fun v => kk v st) bad)
  (fun c a b k bad => argK c (fun g => argK a (fun h => argK b (fun j => k fun _ f st kk => thenQ (pPick (g f) (h f) (j f) st) kk) bad) bad) bad)
  (fun t z k _ => k fun _ _ st kk => thenS (pNew t z st) kk)
  (fun t x k bad => x1s x (fun v st => v.segs.force fun s => pNew t s st) k bad)
  (fun z parts k bad => partsK parts (fun g => k fun _ f st kk => thenQ (pBuild z (g f) st) kk) bad)
  (fun e len z parts k bad => partsK parts (fun g => k fun _ f st kk => thenS (pBuildSlice e len (repS len z) (g f) st) kk) bad)
  (fun a k bad => x1r a hLoad1 k bad)
  (fun n a k bad => x1r a (hLoadN n) k bad)
  (fun n a x k bad => x2s a x (hStore n) k bad)
  (fun x k bad => x1r x pNil k bad)
  (fun op d cst x y k bad => x2r x y (fun v u st => hBin v u op d cst st) k bad)
  (fun op x k bad => x1 x (pUn op) k bad)
  (fun c x k bad => x1s x (pConv c) k bad)
  (fun n x k bad => x1 x (pS2ap n) k bad)
  (fun t x k bad => x1 x (pIface t) k bad)
  (fun fn a c k bad => argsK a (fun g => argsK c (fun h => k fun _ f st kk => thenQ (pFunc fn (g f) (h f) st) kk) bad) bad)
  (fun r k bad => optK r (fun g => k fun _ f st kk => thenS (pMkMap (g f) st) kk) bad)
  (fun e bytes z l c k bad => x2s l c (pMake e bytes z) k bad)
  (fun x lo hi k bad => argK x (fun g => optK lo (fun h => optK hi (fun j => k fun _ f st kk => thenQ (pSliceStr (g f) (h f) (j f) st) kk) bad) bad) bad)
  (fun size x lo hi k bad => argK x (fun g => optK lo (fun h => optK hi (fun j => k fun _ f st kk => thenQ (pSliceSl size (g f) (h f) (j f) st) kk) bad) bad) bad)
  (fun size x lo hi mx k bad => argK x (fun g => optK lo (fun h => argK hi (fun j => argK mx (fun i => k fun _ f st kk => thenQ (pSlice3 size (g f) (h f) (j f) (i f) st) kk) bad) bad) bad) bad)
  (fun n size x lo hi k bad => argK x (fun g => optK lo (fun h => optK hi (fun j => k fun _ f st kk => thenQ (pSliceArr n size (g f) (h f) (j f) st) kk) bad) bad) bad)
  (fun off x k bad => x1r x (hFieldAddr off) k bad)
  (fun agg off size x k bad => x1 x (hField agg off size) k bad)
  (fun n size x i k bad => x2r x i (hIdxArr n size) k bad)
  (fun size x i k bad => x2r x i (hIdxSl size) k bad)
  (fun x i k bad => x2 x i hIdxStr k bad)
  (fun n size agg x i k bad => x2 x i (pIdxAgg n size agg) k bad)
  (fun d z ok x y k bad => x2 x y (pLookup d z ok) k bad)
  (fun d m y x k bad => x3s m y x (pMapUpdate d) k bad)
  (fun d z m y k bad => x2s m y (pMapEntry d z) k bad)
  (fun m s x k bad => x3s m s x pEntryStore k bad)
  (fun x i k bad => x1r x (fun v st => hExtract v i st) k bad)
  (fun q x k bad => x1r x (pLen q) k bad)
  (fun e size bytes z q s x k bad => x2s s x (fun v u st => pAppend e size bytes v (srcOf q size z u st) st) k bad)
  (fun str size d s k bad => x2s d s (pCopy str size) k bad)
  (fun z x k bad => x1s x (pClear z) k bad)
  (fun mx x y k bad => x2 x y (pMM mx) k bad)
  (fun d m y k bad => x2s m y (pDelete d) k bad)
  (fun c args k bad => argsK args (fun g => k fun call f st kk => thenQ (call c (g f) st) kk) bad)
  (fun c args k bad => argK c (fun h => argsK args (fun g => k fun call f st kk => thenQ (pCallv call (h f) (g f) st) kk) bad) bad) op

theorem opXK_eq {β : Type} (op : COp) (k : OpX → β) (bad : β) : (∃ s, OpOK op s ∧ opXK op k bad = k s) ∨ opXK op k bad = bad := by
  have e1 : ∀ (a : CArg) (F : CV → St → OR), (∀ call fr st, runOp call op fr st = F (ev fr a) st) → opXK op k bad = x1 a F k bad → (∃ s, OpOK op s ∧ opXK op k bad = k s) ∨ opXK op k bad = bad := fun a F h1 h2 => by
    rw [h2]
    rcases x1_eq (k := k) (bad := bad) a F with ⟨s, hs, e⟩ | e
    · exact .inl ⟨s, fun call f fr st kk h => by rw [hs call f fr st kk h, h1], e⟩
    · exact .inr e
  have e1r : ∀ (a : CArg) (F : CV → St → OR), (∀ call fr st, runOp call op fr st = F (ev fr a) st) → opXK op k bad = x1r a F k bad → (∃ s, OpOK op s ∧ opXK op k bad = k s) ∨ opXK op k bad = bad := fun a F h1 h2 => by
    rw [h2]
    rcases x1r_eq (k := k) (bad := bad) a F with ⟨s, hs, e⟩ | e
    · exact .inl ⟨s, fun call f fr st kk h => by rw [hs call f fr st kk h, h1], e⟩
    · exact .inr e
  have e1s : ∀ (a : CArg) (F : CV → St → OR), (∀ call fr st, runOp call op fr st = F (ev fr a) st) → opXK op k bad = x1s a F k bad → (∃ s, OpOK op s ∧ opXK op k bad = k s) ∨ opXK op k bad = bad := fun a F h1 h2 => by
    rw [h2]
    rcases x1s_eq (k := k) (bad := bad) a F with ⟨s, hs, e⟩ | e
    · exact .inl ⟨s, fun call f fr st kk h => by rw [hs call f fr st kk h, h1], e⟩
    · exact .inr e
  have e2 : ∀ (a b : CArg) (F : CV → CV → St → OR), (∀ call fr st, runOp call op fr st = F (ev fr a) (ev fr b) st) → opXK op k bad = x2 a b F k bad → (∃ s, OpOK op s ∧ opXK op k bad = k s) ∨ opXK op k bad = bad := fun a b F h1 h2 => by
    rw [h2]
    rcases x2_eq (k := k) (bad := bad) a b F with ⟨s, hs, e⟩ | e
    · exact .inl ⟨s, fun call f fr st kk h => by rw [hs call f fr st kk h, h1], e⟩
    · exact .inr e
  have e2r : ∀ (a b : CArg) (F : CV → CV → St → OR), (∀ call fr st, runOp call op fr st = F (ev fr a) (ev fr b) st) → opXK op k bad = x2r a b F k bad → (∃ s, OpOK op s ∧ opXK op k bad = k s) ∨ opXK op k bad = bad := fun a b F h1 h2 => by
    rw [h2]
    rcases x2r_eq (k := k) (bad := bad) a b F with ⟨s, hs, e⟩ | e
    · exact .inl ⟨s, fun call f fr st kk h => by rw [hs call f fr st kk h, h1], e⟩
    · exact .inr e
  have e2s : ∀ (a b : CArg) (F : CV → CV → St → OR), (∀ call fr st, runOp call op fr st = F (ev fr a) (ev fr b) st) → opXK op k bad = x2s a b F k bad → (∃ s, OpOK op s ∧ opXK op k bad = k s) ∨ opXK op k bad = bad := fun a b F h1 h2 => by
    rw [h2]
    rcases x2s_eq (k := k) (bad := bad) a b F with ⟨s, hs, e⟩ | e
    · exact .inl ⟨s, fun call f fr st kk h => by rw [hs call f fr st kk h, h1], e⟩
    · exact .inr e
  have e3s : ∀ (a b c : CArg) (F : CV → CV → CV → St → OR), (∀ call fr st, runOp call op fr st = F (ev fr a) (ev fr b) (ev fr c) st) → opXK op k bad = x3s a b c F k bad → (∃ s, OpOK op s ∧ opXK op k bad = k s) ∨ opXK op k bad = bad := fun a b c F h1 h2 => by
    rw [h2]
    rcases x3s_eq (k := k) (bad := bad) a b c F with ⟨s, hs, e⟩ | e
    · exact .inl ⟨s, fun call f fr st kk h => by rw [hs call f fr st kk h, h1], e⟩
    · exact .inr e
  cases op with
  | mov x =>
    rcases argK_eq x (fun g => k fun _ f st kk => forceV (g f) fun v => kk v st) bad with ⟨g, hg, e⟩ | e
    · exact .inl ⟨_, fun call f fr st kk h => by rw [forceV_eq, hg f fr h]; rfl, e⟩
    · exact .inr e
  | pick c a b =>
    show (∃ s, OpOK _ s ∧ argK c (fun g => argK a (fun h => argK b (fun j => k fun _ f st kk => thenQ (pPick (g f) (h f) (j f) st) kk) bad) bad) bad = k s) ∨ argK c (fun g => argK a (fun h => argK b (fun j => k fun _ f st kk => thenQ (pPick (g f) (h f) (j f) st) kk) bad) bad) bad = bad
    rcases argK_eq c (fun g => argK a (fun h => argK b (fun j => k fun _ f st kk => thenQ (pPick (g f) (h f) (j f) st) kk) bad) bad) bad with ⟨g, hg, e⟩ | e
    · rw [e]
      rcases argK_eq a (fun h => argK b (fun j => k fun _ f st kk => thenQ (pPick (g f) (h f) (j f) st) kk) bad) bad with ⟨h, hh, e2⟩ | e2
      · rw [e2]
        rcases argK_eq b (fun j => k fun _ f st kk => thenQ (pPick (g f) (h f) (j f) st) kk) bad with ⟨j, hj, e3⟩ | e3
        · exact .inl ⟨_, fun call f fr st kk hr => by rw [thenQ_eq, hg f fr hr, hh f fr hr, hj f fr hr]; rfl, e3⟩
        · exact .inr e3
      · exact .inr e2
    · exact .inr e
  | new t z => exact .inl ⟨_, fun call f fr st kk h => by rw [thenS_eq]; rfl, rfl⟩
  | box t x => exact e1s x (fun v st => v.segs.force fun s => pNew t s st) (fun _ _ _ => rfl) rfl
  | build z parts =>
    rcases partsK_eq parts (fun g => k fun _ f st kk => thenQ (pBuild z (g f) st) kk) bad with ⟨g, hg, e⟩ | e
    · exact .inl ⟨_, fun call f fr st kk h => by rw [thenQ_eq, hg f fr h]; rfl, e⟩
    · exact .inr e
  | buildSlice e' len z parts =>
    rcases partsK_eq parts (fun g => k fun _ f st kk => thenS (pBuildSlice e' len (repS len z) (g f) st) kk) bad with ⟨g, hg, e⟩ | e
    · exact .inl ⟨_, fun call f fr st kk h => by rw [thenS_eq, hg f fr h]; rfl, e⟩
    · exact .inr e
  | load1 a => exact e1r a _ (fun _ _ _ => (hLoad1_eq _ _).symm) rfl
  | loadN n a => exact e1r a _ (fun _ _ _ => (hLoadN_eq _ _ _).symm) rfl
  | store n a x => exact e2s a x _ (fun _ _ _ => (hStore_eq _ _ _ _).symm) rfl
  | nil x => exact e1r x _ (fun _ _ _ => rfl) rfl
  | bin op d cst x y => exact e2r x y (fun v u st => hBin v u op d cst st) (fun _ _ _ => (hBin_eq ..).symm) rfl
  | un op x => exact e1 x _ (fun _ _ _ => rfl) rfl
  | conv c x => exact e1s x _ (fun _ _ _ => rfl) rfl
  | s2ap n x => exact e1 x _ (fun _ _ _ => rfl) rfl
  | iface t x => exact e1 x _ (fun _ _ _ => rfl) rfl
  | func fn a c =>
    rcases argsK_eq a (fun g => argsK c (fun h => k fun _ f st kk => thenQ (pFunc fn (g f) (h f) st) kk) bad) bad with ⟨g, hg, e⟩ | e
    · rcases argsK_eq c (fun h => k fun _ f st kk => thenQ (pFunc fn (g f) (h f) st) kk) bad with ⟨h, hh, e2⟩ | e2
      · exact .inl ⟨_, fun call f fr st kk hr => by rw [thenQ_eq, hg f fr hr, hh f fr hr]; rfl, e.trans e2⟩
      · exact .inr (e.trans e2)
    · exact .inr e
  | mkMap r =>
    rcases optK_eq r (fun g => k fun _ f st kk => thenS (pMkMap (g f) st) kk) bad with ⟨g, hg, e⟩ | e
    · exact .inl ⟨_, fun call f fr st kk h => by rw [thenS_eq, hg f fr h]; rfl, e⟩
    · exact .inr e
  | mkSlice e' bytes z l c => exact e2s l c _ (fun _ _ _ => rfl) rfl
  | sliceStr x lo hi =>
    rcases argK_eq x (fun g => optK lo (fun h => optK hi (fun j => k fun _ f st kk => thenQ (pSliceStr (g f) (h f) (j f) st) kk) bad) bad) bad with ⟨g, hg, e⟩ | e
    · rcases optK_eq lo (fun h => optK hi (fun j => k fun _ f st kk => thenQ (pSliceStr (g f) (h f) (j f) st) kk) bad) bad with ⟨h, hh, e2⟩ | e2
      · rcases optK_eq hi (fun j => k fun _ f st kk => thenQ (pSliceStr (g f) (h f) (j f) st) kk) bad with ⟨j, hj, e3⟩ | e3
        · exact .inl ⟨_, fun call f fr st kk hr => by rw [thenQ_eq, hg f fr hr, hh f fr hr, hj f fr hr]; rfl, e.trans (e2.trans e3)⟩
        · exact .inr (e.trans (e2.trans e3))
      · exact .inr (e.trans e2)
    · exact .inr e
  | sliceSl size x lo hi =>
    rcases argK_eq x (fun g => optK lo (fun h => optK hi (fun j => k fun _ f st kk => thenQ (pSliceSl size (g f) (h f) (j f) st) kk) bad) bad) bad with ⟨g, hg, e⟩ | e
    · rcases optK_eq lo (fun h => optK hi (fun j => k fun _ f st kk => thenQ (pSliceSl size (g f) (h f) (j f) st) kk) bad) bad with ⟨h, hh, e2⟩ | e2
      · rcases optK_eq hi (fun j => k fun _ f st kk => thenQ (pSliceSl size (g f) (h f) (j f) st) kk) bad with ⟨j, hj, e3⟩ | e3
        · exact .inl ⟨_, fun call f fr st kk hr => by rw [thenQ_eq, hg f fr hr, hh f fr hr, hj f fr hr]; rfl, e.trans (e2.trans e3)⟩
        · exact .inr (e.trans (e2.trans e3))
      · exact .inr (e.trans e2)
    · exact .inr e
  | slice3 size x lo hi mx =>
    rcases argK_eq x (fun g => optK lo (fun h => argK hi (fun j => argK mx (fun i => k fun _ f st kk => thenQ (pSlice3 size (g f) (h f) (j f) (i f) st) kk) bad) bad) bad) bad with ⟨g, hg, e⟩ | e
    · rcases optK_eq lo (fun h => argK hi (fun j => argK mx (fun i => k fun _ f st kk => thenQ (pSlice3 size (g f) (h f) (j f) (i f) st) kk) bad) bad) bad with ⟨h, hh, e2⟩ | e2
      · rcases argK_eq hi (fun j => argK mx (fun i => k fun _ f st kk => thenQ (pSlice3 size (g f) (h f) (j f) (i f) st) kk) bad) bad with ⟨j, hj, e3⟩ | e3
        · rcases argK_eq mx (fun i => k fun _ f st kk => thenQ (pSlice3 size (g f) (h f) (j f) (i f) st) kk) bad with ⟨i, hi', e4⟩ | e4
          · exact .inl ⟨_, fun call f fr st kk hr => by rw [thenQ_eq, hg f fr hr, hh f fr hr, hj f fr hr, hi' f fr hr]; rfl, e.trans (e2.trans (e3.trans e4))⟩
          · exact .inr (e.trans (e2.trans (e3.trans e4)))
        · exact .inr (e.trans (e2.trans e3))
      · exact .inr (e.trans e2)
    · exact .inr e
  | sliceArr n size x lo hi =>
    rcases argK_eq x (fun g => optK lo (fun h => optK hi (fun j => k fun _ f st kk => thenQ (pSliceArr n size (g f) (h f) (j f) st) kk) bad) bad) bad with ⟨g, hg, e⟩ | e
    · rcases optK_eq lo (fun h => optK hi (fun j => k fun _ f st kk => thenQ (pSliceArr n size (g f) (h f) (j f) st) kk) bad) bad with ⟨h, hh, e2⟩ | e2
      · rcases optK_eq hi (fun j => k fun _ f st kk => thenQ (pSliceArr n size (g f) (h f) (j f) st) kk) bad with ⟨j, hj, e3⟩ | e3
        · exact .inl ⟨_, fun call f fr st kk hr => by rw [thenQ_eq, hg f fr hr, hh f fr hr, hj f fr hr]; rfl, e.trans (e2.trans e3)⟩
        · exact .inr (e.trans (e2.trans e3))
      · exact .inr (e.trans e2)
    · exact .inr e
  | fieldAddr off x => exact e1r x _ (fun _ _ _ => (hFieldAddr_eq ..).symm) rfl
  | field agg off size x => exact e1 x _ (fun _ _ _ => (hField_eq ..).symm) rfl
  | idxArr n size x i => exact e2r x i _ (fun _ _ _ => (hIdxArr_eq ..).symm) rfl
  | idxSl size x i => exact e2r x i _ (fun _ _ _ => (hIdxSl_eq ..).symm) rfl
  | idxStr x i => exact e2 x i _ (fun _ _ _ => (hIdxStr_eq ..).symm) rfl
  | idxAgg n size agg x i => exact e2 x i _ (fun _ _ _ => rfl) rfl
  | lookup d z ok x y => exact e2 x y _ (fun _ _ _ => rfl) rfl
  | mapUpdate d m y x => exact e3s m y x _ (fun _ _ _ => rfl) rfl
  | mapEntry d z m y => exact e2s m y _ (fun _ _ _ => rfl) rfl
  | entryStore m s x => exact e3s m s x _ (fun _ _ _ => rfl) rfl
  | extract x i => exact e1r x (fun v st => hExtract v i st) (fun _ _ _ => (hExtract_eq ..).symm) rfl
  | len q x => exact e1r x _ (fun _ _ _ => rfl) rfl
  | append e' size bytes z q s x => exact e2s s x (fun v u st => pAppend e' size bytes v (srcOf q size z u st) st) (fun _ _ _ => rfl) rfl
  | copy str size d s => exact e2s d s _ (fun _ _ _ => rfl) rfl
  | clear z x => exact e1s x _ (fun _ _ _ => rfl) rfl
  | minmax mx x y => exact e2 x y _ (fun _ _ _ => rfl) rfl
  | delete d m y => exact e2s m y _ (fun _ _ _ => rfl) rfl
  | call c args =>
    rcases argsK_eq args (fun g => k fun call f st kk => thenQ (call c (g f) st) kk) bad with ⟨g, hg, e⟩ | e
    · exact .inl ⟨_, fun call f fr st kk h => by rw [thenQ_eq, hg f fr h]; rfl, e⟩
    · exact .inr e
  | callv c args =>
    rcases argK_eq c (fun h => argsK args (fun g => k fun call f st kk => thenQ (pCallv call (h f) (g f) st) kk) bad) bad with ⟨h, hh, e⟩ | e
    · rcases argsK_eq args (fun g => k fun call f st kk => thenQ (pCallv call (h f) (g f) st) kk) bad with ⟨g, hg, e2⟩ | e2
      · exact .inl ⟨_, fun call f fr st kk hr => by rw [thenQ_eq, hg f fr hr, hh f fr hr]; rfl, e.trans e2⟩
      · exact .inr (e.trans e2)
    · exact .inr e
end Sim
