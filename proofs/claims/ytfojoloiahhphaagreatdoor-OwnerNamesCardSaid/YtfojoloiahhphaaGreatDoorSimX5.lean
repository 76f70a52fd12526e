import Derived.Test.YtfojoloiahhphaaGreatDoorSimX4C
/- Sim, part 34: functions as closures, and calls. -/
namespace Sim
open Go

abbrev FunX := CallF → List CV → St → OR
abbrev BindX := List CV → Fx → (Fx → OR) → OR

/- the frame a call opens -/
noncomputable def forceVO (v : CV) : (CV → OR) → OR := CV.rec (motive_1 := fun _ => (CV → OR) → OR) (motive_2 := fun _ => PUnit) (fun k => k .undef) (fun b => fun k => k (.bool b)) (fun q n => fun k => forceZ n fun n => k (.int q n)) (fun a b => fun k => forceN a fun a => forceN b fun b => k (.str a b)) (fun k => k .nilptr) (fun b off => fun k => forceN off fun off => k (.ptr b off)) (fun k => k .nilslice) (fun b off len cap g => fun k => forceN off fun off => forceN len fun len => forceN cap fun cap => forceN g fun g => k (.slice b off len cap g)) (fun k => k .nilmap) (fun b => fun k => k (.map b)) (fun f a c _ _ => fun k => k (.func f a c)) (fun k => k .nilfunc) (fun t v _ => fun k => k (.iface t v)) (fun k => k .niliface) (fun s _ => fun k => s.force fun s => k (.agg s)) (fun s _ => fun k => s.force fun s => k (.tuple s)) (fun n => fun k => forceN n fun n => k (.atleast n)) PUnit.unit (fun _ _ _ _ => PUnit.unit) (fun _ _ _ _ => PUnit.unit) v
theorem forceVO_eq (v : CV) (k : CV → OR) : forceVO v k = k v := by cases v <;> simp only [forceVO, forceZ_eq, forceN_eq, Segs.force_eq]
noncomputable def bindXK {β : Type} (m : Nat) : Nat → (BindX → β) → β → β :=
  Nat.rec (motive := fun _ => Nat → (BindX → β) → β → β)
    (fun _ k _ => k fun args f kk => List.rec (motive := fun _ => OR) (kk f) (fun _ _ _ => .bad) args)
    (fun _ ih i k bad => xputK i (fun p => ih (Nat.succ i) (fun r => k fun args f kk => List.rec (motive := fun _ => OR) (kk f) (fun v rest _ => forceVO v fun v => p f v fun f => r rest f kk) args) bad) bad) m
def BindOK (i : Nat) (r : BindX) : Prop := ∀ args f fr kk, XR f fr → r args f kk = .bad ∨ ∃ f', XR f' (frameFrom args (Bp.enc i) fr) ∧ r args f kk = kk f'
theorem enc_succ (i : Nat) : (Bp.enc i).succ = Bp.enc (Nat.succ i) := Bp.dec_inj _ _ (by rw [Bp.dec_succ, Bp.dec_enc, Bp.dec_enc])
theorem bindXK_eq {β : Type} : ∀ (m i : Nat) (k : BindX → β) (bad : β), (∃ r, BindOK i r ∧ bindXK m i k bad = k r) ∨ bindXK m i k bad = bad := by
  intro m
  induction m with
  | zero =>
    intro i k bad
    refine .inl ⟨_, ?_, rfl⟩
    intro args f fr kk h
    cases args with
    | nil => exact .inr ⟨f, h, rfl⟩
    | cons v l => exact .inl rfl
  | succ m ih =>
    intro i k bad
    have e0 : bindXK (m + 1) i k bad = xputK i (fun p => bindXK m (Nat.succ i) (fun r => k fun args f kk => List.rec (motive := fun _ => OR) (kk f) (fun v rest _ => forceVO v fun v => p f v fun f => r rest f kk) args) bad) bad := rfl
    rw [e0]
    rcases xputK_eq (R := OR) i (fun p => bindXK m (Nat.succ i) (fun r => k fun args f kk => List.rec (motive := fun _ => OR) (kk f) (fun v rest _ => forceVO v fun v => p f v fun f => r rest f kk) args) bad) bad with ⟨hi, p, hp, e⟩ | ⟨_, e⟩
    · rcases ih (Nat.succ i) (fun r => k fun args f kk => List.rec (motive := fun _ => OR) (kk f) (fun v rest _ => forceVO v fun v => p f v fun f => r rest f kk) args) bad with ⟨r, hr, e2⟩ | e2
      · refine .inl ⟨_, ?_, e.trans e2⟩
        intro args f fr kk h
        cases args with
        | nil => exact .inr ⟨f, h, rfl⟩
        | cons v l =>
          dsimp only
          rw [forceVO_eq, hp f v, frameFrom_cons, enc_succ]
          exact hr l _ _ kk (h.put hi v)
      · exact .inr (e.trans e2)
    · exact .inr e

/- results -/
abbrev Res1X := Fx → St → (CV → OR) → OR
abbrev ResX := Fx → St → (List CV → OR) → OR
noncomputable def onOK (r : OR) (k : CV → OR) : OR := OR.rec (motive := fun _ => (CV → OR) → OR) (fun v _ k => forceVO v fun v => k v) (fun _ => .bad) r k
noncomputable def res1XK {β : Type} (P : Program) (r : ResultVar) (k : Res1X → β) (bad : β) : β :=
  ResultVar.rec (motive := fun _ => β) (fun t => xgetK t (fun g => k fun f _ kk => kk (g f)) bad)
    (fun a t => Option.rec (motive := fun _ => β) bad (fun u => Option.rec (motive := fun _ => β) bad (fun i => xgetK a (fun g =>
      bsel (aggOf u) (forceN i.size fun n => k fun f st kk => onOK (pLoadN n (g f) st) kk) (k fun f st kk => onOK (pLoad1 (g f) st) kk)) bad) (infoT P t)) (undT P t)) r
def Res1OK (P : Program) (r : ResultVar) (g : Res1X) : Prop := ∀ f fr st kk, XR f fr → g f st kk = (match resC1 P fr st r with | some v => kk v | none => .bad)
theorem onOK_eq (r : OR) (k : CV → OR) : onOK r k = (match (match r with | .ok v _ => some v | .bad => none) with | some v => k v | none => .bad) := by
  cases r with
  | bad => rfl
  | ok v st => show forceVO v (fun v => k v) = k v; rw [forceVO_eq]
theorem res1XK_eq {β : Type} (P : Program) (r : ResultVar) (k : Res1X → β) (bad : β) : (∃ g, Res1OK P r g ∧ res1XK P r k bad = k g) ∨ res1XK P r k bad = bad := by
  cases r with
  | tmp t =>
    rcases xgetK_eq t (fun g => k fun f _ kk => kk (g f)) bad with ⟨hi, g, hg, e⟩ | ⟨_, e⟩
    · refine .inl ⟨_, ?_, e⟩
      intro f fr st kk h
      dsimp only
      rw [hg f, h t hi]; rfl
    · exact .inr e
  | cell a t =>
    have e0 : res1XK P (.cell a t) k bad = Option.rec (motive := fun _ => β) bad (fun u => Option.rec (motive := fun _ => β) bad (fun i => xgetK a (fun g =>
      bsel (aggOf u) (forceN i.size fun n => k fun f st kk => onOK (pLoadN n (g f) st) kk) (k fun f st kk => onOK (pLoad1 (g f) st) kk)) bad) (infoT P t)) (undT P t) := rfl
    rw [e0]
    cases hu : undT P t with
    | none => exact .inr rfl
    | some u =>
      cases hi : infoT P t with
      | none => exact .inr rfl
      | some i =>
        dsimp only
        rcases xgetK_eq a (fun g => bsel (aggOf u) (forceN i.size fun n => k fun f st kk => onOK (pLoadN n (g f) st) kk) (k fun f st kk => onOK (pLoad1 (g f) st) kk)) bad with ⟨hlt, g, hg, e⟩ | ⟨_, e⟩
        · rw [e, bsel_eq, forceN_eq]
          by_cases ha : aggOf u = true
          · rw [if_pos ha]
            refine .inl ⟨_, ?_, rfl⟩
            intro f fr st kk h
            dsimp only
            rw [onOK_eq, hg f, h a hlt]
            unfold resC1
            dsimp only
            rw [hu, hi]
            dsimp only
            rw [bsel_eq, if_pos ha]; rfl
          · rw [if_neg ha]
            refine .inl ⟨_, ?_, rfl⟩
            intro f fr st kk h
            dsimp only
            rw [onOK_eq, hg f, h a hlt]
            unfold resC1
            dsimp only
            rw [hu, hi]
            dsimp only
            rw [bsel_eq, if_neg ha]; rfl
        · exact .inr e
noncomputable def resLXK {β : Type} (P : Program) (l : List ResultVar) : (ResX → β) → β → β :=
  List.rec (motive := fun _ => (ResX → β) → β → β) (fun k _ => k fun _ _ kk => kk [])
    (fun r _ ih k bad => res1XK P r (fun g => ih (fun h => k fun f st kk => g f st fun v => h f st fun l => kk (v :: l)) bad) bad) l
def ResLOK (P : Program) (l : List ResultVar) (g : ResX) : Prop := ∀ f fr st kk, XR f fr → g f st kk = (match resL P fr st l with | some v => kk v | none => .bad)
theorem resLXK_eq {β : Type} (P : Program) : ∀ (l : List ResultVar) (k : ResX → β) (bad : β), (∃ g, ResLOK P l g ∧ resLXK P l k bad = k g) ∨ resLXK P l k bad = bad := by
  intro l
  induction l with
  | nil => intro k bad; refine .inl ⟨_, ?_, rfl⟩; intro f fr st kk h; rfl
  | cons r l ih =>
    intro k bad
    have e0 : resLXK P (r :: l) k bad = res1XK P r (fun g => resLXK P l (fun h => k fun f st kk => g f st fun v => h f st fun l => kk (v :: l)) bad) bad := rfl
    rw [e0]
    rcases res1XK_eq P r (fun g => resLXK P l (fun h => k fun f st kk => g f st fun v => h f st fun l => kk (v :: l)) bad) bad with ⟨g, hg, e⟩ | e
    · rcases ih (fun h => k fun f st kk => g f st fun v => h f st fun l => kk (v :: l)) bad with ⟨h', hh, e2⟩ | e2
      · refine .inl ⟨_, ?_, e.trans e2⟩
        intro f fr st kk h
        dsimp only
        rw [hg f fr st _ h]
        have e3 : resL P fr st (r :: l) = (match resC1 P fr st r, resL P fr st l with | some v, some l => some (v :: l) | _, _ => none) := rfl
        rw [e3]
        cases resC1 P fr st r with
        | none => rfl
        | some v =>
          dsimp only
          rw [hh f fr st _ h]
          cases resL P fr st l with
          | none => rfl
          | some l' => rfl
      · exact .inr (e.trans e2)
    · exact .inr e
noncomputable def resFin (l : List CV) (st : St) : OR :=
  List.rec (motive := fun _ => OR) (.ok .undef st) (fun v r _ => List.rec (motive := fun _ => OR) (.ok v st) (fun _ _ _ => (listS (v :: r)).force fun s => .ok (.tuple s) st) r) l
theorem resFin_eq (P : Program) (fr : Fr) (st : St) (l : List ResultVar) : (match resL P fr st l with | some v => resFin v st | none => .bad) = resC P fr st l := by
  unfold resC
  cases resL P fr st l with
  | none => rfl
  | some l' =>
    match l' with
    | [] => rfl
    | [v] => rfl
    | v :: w :: r => rfl

noncomputable def finX (r : Rx) (k : Fx → St → OR) : OR := Rx.rec (motive := fun _ => (Fx → St → OR) → OR) (fun f st k => k f st) (fun _ _ _ _ => .bad) (fun f st k => k f st) (fun _ => .bad) r k
noncomputable def funXK (P : Program) (f : Nat) : Option FunX :=
  bsel (callableT P f) (Option.rec (motive := fun _ => Option FunX) none (fun fn => Option.rec (motive := fun _ => Option FunX) none (fun c =>
    bindXK (Nat.add fn.params.size fn.nfree) 0 (fun b => resLXK P fn.results.toList (fun g => forceN fn.ntmps fun n => codeXK P n c fun x =>
      some fun call args st => b args Fx.nil fun f => finX (x call f st) fun f st => g f st fun l => resFin l st) none) none) fn.body) (funcT P f)) none
theorem funXK_ok {P : Program} {f : Nat} {F : FunX} (h : funXK P f = some F) (call : CallF) (args : List CV) (st : St) : F call args st = .bad ∨ F call args st = enterC P (runDraw2 P) call f args st := by
  unfold funXK at h
  rw [bsel_eq] at h
  split at h
  · rename_i hc
    unfold enterC
    rw [hc, bsel_eq, if_pos rfl]
    cases hf : funcT P f with
    | none => rw [hf] at h; cases h
    | some fn =>
      rw [hf] at h
      cases hb : fn.body with
      | none => dsimp only at h; rw [hb] at h; cases h
      | some c =>
        dsimp only at h ⊢
        rw [hb] at h
        dsimp only at h ⊢
        rw [hb]
        dsimp only
        rcases bindXK_eq (Nat.add fn.params.size fn.nfree) 0 (fun b => resLXK P fn.results.toList (fun g => forceN fn.ntmps fun n => codeXK P n c fun x => some fun call args st => b args Fx.nil fun f => finX (x call f st) fun f st => g f st fun l => resFin l st) none) none with ⟨b, hbo, e⟩ | e
        · rcases resLXK_eq P fn.results.toList (fun g => forceN fn.ntmps fun n => codeXK P n c fun x => some fun call args st => b args Fx.nil fun f => finX (x call f st) fun f st => g f st fun l => resFin l st) none with ⟨g, hg, e2⟩ | e2
          · rw [forceN_eq] at e2
            obtain ⟨x, hx, e3⟩ := codeXK_eq P fn.ntmps c (fun x => some fun call args st => b args Fx.nil fun f => finX (x call f st) fun f st => g f st fun l => resFin l st)
            have e4 := (e.trans e2).trans e3
            rw [h] at e4
            have e5 := Option.some.inj e4
            rw [e5]
            dsimp only
            rcases hbo args Fx.nil .nil (fun f => finX (x call f st) fun f st => g f st fun l => resFin l st) XR.nil with h1 | ⟨f', hf', h1⟩
            · exact .inl h1
            · rw [h1]
              have hr := hx call f' (frameOf args) st hf'
              generalize exec P call (runDraw2 P) fn.ntmps c (frameOf args) st = s at hr
              cases hxr : x call f' st with
              | bad => exact .inl rfl
              | exit id f2 st2 => exact .inl rfl
              | norm f2 st2 =>
                rw [hxr] at hr
                obtain ⟨fr2, rfl, hxr2⟩ := hr
                right
                show g f2 st2 (fun l => resFin l st2) = resC P fr2 st2 fn.results.toList
                rw [hg f2 fr2 st2 _ hxr2, resFin_eq]
              | ret f2 st2 =>
                rw [hxr] at hr
                obtain ⟨fr2, rfl, hxr2⟩ := hr
                right
                show g f2 st2 (fun l => resFin l st2) = resC P fr2 st2 fn.results.toList
                rw [hg f2 fr2 st2 _ hxr2, resFin_eq]
          · rw [e.trans e2] at h; cases h
        · rw [e] at h; cases h
  · cases h

/- calls, so deep; some functions by a contract of their own -/
abbrev IntX := Nat → Option FunX
def IntXSound (P : Program) (I : IntX) : Prop := ∀ f g, I f = some g → ∀ call, CallSound P call → ∀ args st v st', g call args st = .ok v st' → CallOut P f args st v st'
noncomputable def runX (P : Program) (I : IntX) (fuel : Nat) : CallF :=
  Nat.rec (motive := fun _ => CallF) (fun _ _ _ => .bad)
    (fun _ ih f args st => Option.rec (motive := fun _ => OR) (Option.rec (motive := fun _ => OR) .bad (fun F => F ih args st) (funXK P f)) (fun g => g ih args st) (I f)) fuel
theorem runX_sound {P : Program} {I : IntX} (hm : P.follows .mixedOrders = true) (hi : IntXSound P I) : ∀ fuel, CallSound P (runX P I fuel) := by
  intro fuel
  induction fuel with
  | zero => intro f args st v st' h; cases h
  | succ fuel ih =>
    intro f args st v st' h
    have e : runX P I (fuel + 1) f args st = Option.rec (motive := fun _ => OR) (Option.rec (motive := fun _ => OR) .bad (fun F => F (runX P I fuel) args st) (funXK P f)) (fun g => g (runX P I fuel) args st) (I f) := rfl
    rw [e] at h
    cases hg : I f with
    | some g => rw [hg] at h; exact hi f g hg _ ih args st v st' h
    | none =>
      rw [hg] at h
      dsimp only at h
      cases hF : funXK P f with
      | none => rw [hF] at h; cases h
      | some F =>
        rw [hF] at h
        dsimp only at h
        rcases funXK_ok hF (runX P I fuel) args st with h1 | h1
        · rw [h1] at h; cases h
        · rw [h1] at h
          exact .inl (enterC_sound ih (runDraw2_sound hm) h)
end Sim
