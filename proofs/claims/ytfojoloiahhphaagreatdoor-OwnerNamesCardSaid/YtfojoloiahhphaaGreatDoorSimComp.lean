import Derived.Test.YtfojoloiahhphaaGreatDoorSimRun
/- Sim, part 18: the compiler of operations, and that it is sound. -/
namespace Sim
open Go

def allInfo (P : Program) (l : List Field) : Bool := l.all fun f => (P.info? f.type).isSome
noncomputable def eqFor (P : Program) (op : BinOp) (t : TypeId) : Option EqD :=
  match op with
  | .eql | .neq => (match eqDesc P 40 t with
    | some d => bsel (aggD d) (bsel (P.eqGuardType P.depth t) none (some d)) (some d)
    | none => none)
  | _ => none
noncomputable def convKind (P : Program) (s d : TypeId) : Option ConvK :=
  match P.underlying s, P.underlying d with
  | some _, some (.int k) => some (.toInt k)
  | some .string, some .string => some .same
  | some .string, some (.slice e) => (match P.underlying e with | some (.int .u8) => some (.bytesOf e) | _ => none)
  | some (.slice e), some .string => (match P.underlying e with | some (.int .u8) => some .strOf | _ => none)
  | _, _ => none
noncomputable def keyOf (P : Program) (t : TypeId) : Option (TypeId × EqD) :=
  match P.underlying t with
  | some (.map k e) => (match eqDesc P 40 k with | some d => bsel (deepKey 40 d) (some (e, d)) none | none => none)
  | _ => none
noncomputable def lenKind (P : Program) (t : TypeId) : Option LenK :=
  match P.underlying t with
  | some .string => some .str
  | some (.slice _) => some .slice
  | some (.map _ _) => some .map
  | some (.array n _) => some (.const n)
  | some (.pointer a) => (match P.underlying a with | some (.array n _) => some (.const n) | _ => none)
  | _ => none
noncomputable def srcKind (P : Program) (u : TypeId) (size : Nat) : Option SrcK :=
  match P.underlying u with
  | some (.slice _) => some .slice
  | some .string => bsel (Nat.beq size 1) (some .str) none
  | some (.int _) => some .zeros
  | _ => none
def zerosFit (k : SrcK) (bytes : Nat) : Bool := match k with | .zeros => Nat.ble bytes 256 | _ => true

noncomputable def compBuiltin (P : Program) (b : Builtin) (ats : List TypeId) (args : List Operand) : Option COp :=
  match b, ats, args with
  | .len, t :: _, [x] => (match lenKind P t, cArg x with | some k, some x => some (.len k x) | _, _ => none)
  | .cap, t :: _, [x] => (match P.underlying t, cArg x with | some (.slice _), some x => some (.len .cap x) | _, _ => none)
  | .append, [t, u], [s, x] => (match P.underlying t, cArg s, cArg x with
    | some (.slice e), some s, some x => (match P.info? e with
      | some i => (match zrow i, srcKind P u i.size with | some z, some k => bsel (zerosFit k i.bytes) (some (.append e i.size i.bytes z k s x)) none | _, _ => none)
      | none => none)
    | _, _, _ => none)
  | .copy, [t, u], [d, s] => (match P.underlying t, P.underlying u, cArg d, cArg s with
    | some (.slice e), some su, some d, some s => (match P.info? e, su with
      | some i, .slice _ => some (.copy false i.size d s)
      | some i, .string => bsel (Nat.beq i.size 1) (some (.copy true i.size d s)) none
      | _, _ => none)
    | _, _, _, _ => none)
  | .clear, [t], [x] => (match P.underlying t, cArg x with
    | some (.slice e), some x => (match P.info? e with | some i => (match zrow i with | some z => some (.clear z x) | none => none) | none => none)
    | _, _ => none)
  | .max, _, [x, y] => (match cArg x, cArg y with | some x, some y => some (.minmax true x y) | _, _ => none)
  | .min, _, [x, y] => (match cArg x, cArg y with | some x, some y => some (.minmax false x y) | _, _ => none)
  | .delete, t :: _, [m, k] => (match keyOf P t, cArg m, cArg k with | some (_, d), some m, some k => some (.delete d m k) | _, _, _ => none)
  | _, _, _ => none

noncomputable def compOp (P : Program) (op : Op) : Option COp :=
  match op with
  | .move x => (match cArg x with | some x => some (.mov x) | none => none)
  | .assign x => (match cArg x with | some x => some (.mov x) | none => none)
  | .pick c a b => (match cArg c, cArg a, cArg b with | some c, some a, some b => some (.pick c a b) | _, _, _ => none)
  | .alloc t => (match P.info? t with | some i => (match zrow i with | some z => some (.new t z) | none => none) | none => none)
  | .box t x => (match cArg x with | some x => some (.box t x) | none => none)
  | .build t parts => (match P.underlying t, P.info? t with
    | some (.struct fs), some i => (match zrow i, cParts (placeF P fs) parts.toList, allInfo P fs.toList with | some z, some ps, true => some (.build z ps) | _, _, _ => none)
    | some (.array _ e), some i => (match P.info? e with | some j => (match zrow i, cParts (placeA j.size) parts.toList with | some z, some ps => some (.build z ps) | _, _ => none) | none => none)
    | _, _ => none)
  | .buildSlice t len parts => (match P.underlying t with
    | some (.slice e) => (match P.info? e with
      | some i => bsel (Nat.ble (Nat.mul len i.size) 16777216) (match zrow i, cParts (placeA i.size) parts.toList with | some z, some ps => some (.buildSlice e len z ps) | _, _ => none) none
      | none => none)
    | _ => none)
  | .load t x => (match P.underlying t, P.info? t, cArg x with | some u, some i, some x => bsel (aggOf u) (some (.loadN i.size x)) (some (.load1 x)) | _, _, _ => none)
  | .store t x y => (match P.info? t, cArg x, cArg y with | some i, some x, some y => some (.store i.size x y) | _, _, _ => none)
  | .nilCheck x => (match cArg x with | some x => some (.nil x) | none => none)
  | .binOp op t x y _ => (match cArg x, cArg y with | some x', some y' => some (.bin op (eqFor P op t) (cstOf x y) x' y') | _, _ => none)
  | .unOp op _ x => (match cArg x with | some x => some (.un op x) | none => none)
  | .convert s d x => (match convKind P s d, cArg x with | some c, some x => some (.conv c x) | _, _ => none)
  | .sliceToArrayPointer t x => (match P.underlying t, cArg x with | some (.array n _), some x => some (.s2ap n x) | _, _ => none)
  | .makeInterface t x => (match P.concrete t, cArg x with | true, some x => some (.iface t x) | _, _ => none)
  | .makeFunc fn f c => (match cArgs f.toList, cArgs c.toList with | some f, some c => some (.func fn f c) | _, _ => none)
  | .makeMap t r => (match P.underlying t, cOpt r with | some (.map _ _), some r => some (.mkMap r) | _, _ => none)
  | .makeSlice t l c => (match P.underlying t, cArg l, cArg c with
    | some (.slice e), some l, some c => (match P.info? e with | some i => (match zrow i with | some z => some (.mkSlice e i.bytes z l c) | none => none) | none => none)
    | _, _, _ => none)
  | .slice t x lo hi mx => (match P.underlying t, cArg x, cOpt lo, cOpt hi, cOpt mx with
    | some .string, some x, some lo, some hi, some none => some (.sliceStr x lo hi)
    | some (.slice e), some x, some lo, some hi, some none => (match P.info? e with | some i => some (.sliceSl i.size x lo hi) | none => none)
    | some (.slice e), some x, some lo, some (some hi), some (some mx) => (match P.info? e with | some i => some (.slice3 i.size x lo hi mx) | none => none)
    | some (.array n e), some x, some lo, some hi, some none => (match P.info? e with | some i => some (.sliceArr n i.size x lo hi) | none => none)
    | _, _, _, _, _ => none)
  | .fieldAddr t x f => (match P.underlying t, cArg x with
    | some (.struct fs), some x => (match fs[f]? with
      | some fd => (match P.info? fd.type with | some i => bsel (Nat.beq i.size 0) none (some (.fieldAddr fd.offset x)) | none => none)
      | none => none)
    | _, _ => none)
  | .field t x f => (match P.underlying t, cArg x with
    | some (.struct fs), some x => (match fs[f]? with
      | some fd => (match P.info? fd.type, P.underlying fd.type with | some i, some u => some (.field (aggOf u) fd.offset i.size x) | _, _ => none)
      | none => none)
    | _, _ => none)
  | .indexAddr t x i => (match P.underlying t, cArg x, cArg i with
    | some (.array n e), some x, some i => (match P.info? e with | some j => some (.idxArr n j.size x i) | none => none)
    | some (.slice e), some x, some i => (match P.info? e with | some j => some (.idxSl j.size x i) | none => none)
    | _, _, _ => none)
  | .index t x i => (match P.underlying t, cArg x, cArg i with
    | some .string, some x, some i => some (.idxStr x i)
    | some (.array n e), some x, some i => (match P.info? e, P.underlying e with | some j, some u => some (.idxAgg n j.size (aggOf u) x i) | _, _ => none)
    | _, _, _ => none)
  | .lookup t x k ok => (match keyOf P t, cArg x, cArg k with
    | some (e, d), some x, some k => (match P.info? e with | some i => (match zval i with | some z => some (.lookup d z ok x k) | none => none) | none => none)
    | _, _, _ => none)
  | .mapUpdate t m k x | .insert t m k x => (match keyOf P t, cArg m, cArg k, cArg x with | some (_, d), some m, some k, some x => some (.mapUpdate d m k x) | _, _, _, _ => none)
  | .mapEntry t m k => (match keyOf P t, cArg m, cArg k with
    | some (e, d), some m, some k => (match P.info? e with | some i => (match zval i with | some z => some (.mapEntry d z m k) | none => none) | none => none)
    | _, _, _ => none)
  | .entryStore _ m s x => (match cArg m, cArg s, cArg x with | some m, some s, some x => some (.entryStore m s x) | _, _, _ => none)
  | .extract x i => (match cArg x with | some x => some (.extract x i) | none => none)
  | .call { callee := .builtin b, args, argTypes } => compBuiltin P b argTypes.toList args.toList
  | .call { callee := .value (.func f), args, .. } => (match cArgs args.toList with | some l => some (.call f l) | none => none)
  | .call { callee := .value f, args, .. } => (match cArg f, cArgs args.toList with | some f, some l => some (.callv f l) | _, _ => none)
  | _ => none

section
variable {P : Program} {ρ : Ren} {st st' : St} {w : World} {v : CV} {fr : Fr} {a : Act} {call : CallF}

theorem opwp_of_does {o : Oper} {next : Act → World → Prop} {Q : Exit → Act → World → Prop} (h : Does P (execOp a.eval o) ρ st w v st')
    (hn : ∀ v' w' ρ', VR ρ' v v' → After ρ st w ρ' st' w' → next (a.put o.dst v') w') : o.wp P a w next Q := by
  obtain ⟨x, v', w', ρ', h1, h2, h3, h4⟩ := h
  unfold Oper.wp
  rw [h1]
  rcases h2 with rfl | ⟨rfl, rfl⟩
  · exact hn v' w' ρ' h3 h4
  · exact hn _ w' ρ' h3 h4

theorem keyOf_some {t e : TypeId} {d : EqD} (h : keyOf P t = some (e, d)) : ∃ k, P.underlying t = some (.map k e) ∧ eqDesc P 40 k = some d ∧ deepKey 40 d = true := by
  unfold keyOf at h
  split at h
  · rename_i k e' hu
    split at h
    · rename_i d' hd
      rw [bsel_eq] at h
      split at h
      · rename_i hk; cases h; exact ⟨k, hu, hd, hk⟩
      · cases h
    · cases h
  · cases h
theorem eqFor_some {op : BinOp} {t : TypeId} {d : EqD} (h : eqFor P op t = some d) : eqDesc P 40 t = some d ∧ (aggD d = true → P.eqGuardType P.depth t = false) := by
  have key : ∀ {x : Option EqD}, (match eqDesc P 40 t with
    | some d => bsel (aggD d) (bsel (P.eqGuardType P.depth t) none (some d)) (some d)
    | none => none) = some d → eqDesc P 40 t = some d ∧ (aggD d = true → P.eqGuardType P.depth t = false) := by
    intro _ h
    split at h
    · rename_i d' hd
      simp only [bsel_eq] at h
      split at h
      · split at h
        · cases h
        · rename_i hg; cases h; exact ⟨hd, fun _ => by simpa using hg⟩
      · rename_i ha; cases h; exact ⟨hd, fun e => absurd e ha⟩
    · cases h
  unfold eqFor at h
  split at h
  · exact key (x := none) h
  · exact key (x := none) h
  · cases h
theorem convKind_some {s d : TypeId} {c : ConvK} (h : convKind P s d = some c) : convFits P c s d := by
  unfold convKind at h
  split at h
  · rename_i u k h1 h2; cases h; exact ⟨h2, u, h1⟩
  · rename_i h1 h2; cases h; exact ⟨h2, h1⟩
  · rename_i e h1 h2
    split at h
    · rename_i h3; cases h; exact ⟨h2, h3, h1⟩
    · cases h
  · rename_i e h1 h2
    split at h
    · rename_i h3; cases h; exact ⟨e, h1, h3, h2⟩
    · cases h
  · cases h
theorem lenKind_some {t : TypeId} {k : LenK} (h : lenKind P t = some k) : lenFits P k t := by
  unfold lenKind at h
  split at h
  · rename_i hu; cases h; exact hu
  · rename_i e hu; cases h; exact ⟨e, hu⟩
  · rename_i k e hu; cases h; exact ⟨k, e, hu⟩
  · rename_i n e hu; cases h; exact .inl ⟨e, hu⟩
  · rename_i a hu
    split at h
    · rename_i n e hu2; cases h; exact .inr ⟨a, e, hu, hu2⟩
    · cases h
  · cases h
theorem srcKind_some {u : TypeId} {size : Nat} {k : SrcK} (h : srcKind P u size = some k) : srcFits P k u size := by
  unfold srcKind at h
  split at h
  · rename_i e hu; cases h; exact ⟨e, hu⟩
  · rename_i hu
    simp only [bsel_eq, Nat.beq_eq] at h
    split at h
    · rename_i hs; cases h; exact ⟨hu, hs⟩
    · cases h
  · rename_i j hu; cases h; exact ⟨j, hu⟩
  · cases h
theorem isAgg_run {t : TypeId} {u : TypeDesc} (hu : P.underlying t = some u) : (isAgg t).run P w = .ok (aggOf u) w := by
  cases u <;> simp [isAgg, run_underlying hu, aggOf]
theorem sizeOf_run {t : TypeId} {i : TypeInfo} (hi : P.info? t = some i) : (Go.sizeOf t).run P w = .ok i.size w := by simp [Go.sizeOf, typeInfo, hi]

theorem compBuiltin_sound {b : Builtin} {ats : Array TypeId} {args : Array Operand} {op : COp} {ty : TypeId} {cs : Array Bool} (h : compBuiltin P b ats.toList args.toList = some op) (hr : runOp call op fr st = .ok v st') (hw : WR ρ st w) (hf : FR ρ fr a.tmps) :
    Does P (builtin b ats ty cs (args.map a.eval)) ρ st w v st' := by
  obtain ⟨ats⟩ := ats
  obtain ⟨args⟩ := args
  rw [show Array.map a.eval ⟨args⟩ = (args.map a.eval).toArray from by simp]
  unfold compBuiltin at h
  split at h
  · rename_i t r x ht hx
    cases ht; cases hx
    split at h
    · rename_i k x' hk hx'
      cases h
      have := pLen_sound (P := P) (ty := ty) hr hw (ev_sound hx' hf) (lenKind_some hk) (t :: r).toArray (by simp)
      exact this.does
    · cases h
  · rename_i t r x ht hx
    cases ht; cases hx
    split at h
    · rename_i e x' hk hx'
      cases h
      exact (pCap_sound (P := P) (ty := ty) hr hw (ev_sound hx' hf) hk (t :: r).toArray (by simp)).does
    · cases h
  · rename_i t u s x ht hx
    cases ht; cases hx
    split at h
    · rename_i e s' x' hu hs' hx'
      split at h
      · rename_i i hi
        split at h
        · rename_i z k hz hk
          rw [bsel_eq] at h
          split at h
          · rename_i hzf
            cases h
            obtain ⟨z', z1, z2, z3⟩ := zrow_some hz
            have := pAppend_sound (P := P) (t := t) (u := u) (ty := ty) hr hw (ev_sound hs' hf) (ev_sound hx' hf) (srcKind_some hk) hu hi z1 rfl z2 z3 rfl (fun hkz => by subst hkz; simpa [zerosFit] using hzf)
            exact this.does
          · cases h
        · cases h
      · cases h
    · cases h
  · rename_i t u d s ht hx
    cases ht; cases hx
    split at h
    · rename_i e su d' s' hu hsu hd' hs'
      split at h
      · rename_i i e2 hi
        cases h
        have := pCopy_sound (P := P) (dT := t) (sT := u) (ty := ty) hr hw (ev_sound hd' hf) (ev_sound hs' hf) hu hi rfl (fun e => by cases e)
        exact this.does
      · rename_i i hi
        simp only [bsel_eq, Nat.beq_eq] at h
        split at h
        · rename_i h1
          cases h
          have := pCopy_sound (P := P) (dT := t) (sT := u) (ty := ty) hr hw (ev_sound hd' hf) (ev_sound hs' hf) hu hi rfl (fun _ => h1)
          exact this.does
        · cases h
      · cases h
    · cases h
  · rename_i t x ht hx
    cases ht; cases hx
    split at h
    · rename_i e x' hu hx'
      split at h
      · rename_i i hi
        split at h
        · rename_i z hz
          cases h
          obtain ⟨z', z1, z2, z3⟩ := zrow_some hz
          have := pClear_sound (P := P) (t := t) (ty := ty) hr hw (ev_sound hx' hf) hu hi z1 z3
          exact this.does
        · cases h
      · cases h
    · cases h
  · rename_i x y hx
    cases hx
    split at h
    · rename_i x' y' hx' hy'
      cases h
      have := pMM_sound (P := P) (mx := true) (ats := ats.toArray) (ty := ty) hr hw (ev_sound hx' hf) (ev_sound hy' hf)
      exact DoesV.does (s := Builtin.max_ ats.toArray ty #[a.eval x, a.eval y]) this
    · cases h
  · rename_i x y hx
    cases hx
    split at h
    · rename_i x' y' hx' hy'
      cases h
      have := pMM_sound (P := P) (mx := false) (ats := ats.toArray) (ty := ty) hr hw (ev_sound hx' hf) (ev_sound hy' hf)
      exact DoesV.does (s := Builtin.min_ ats.toArray ty #[a.eval x, a.eval y]) this
    · cases h
  · rename_i t r m k ht hx
    cases ht; cases hx
    split at h
    · rename_i e d m' k' hk hm' hk'
      cases h
      obtain ⟨kt, k1, k2, k3⟩ := keyOf_some hk
      have := pDelete_sound (P := P) (ty := ty) (ats := (t :: r).toArray) (by simp) hr hw (ev_sound hm' hf) (ev_sound hk' hf) k1 k2 (by omega) k3
      exact this.does
    · cases h
  · cases h
end
end Sim
