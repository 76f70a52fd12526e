import Derived.Test.YtfojoloiahhphaaGreatDoorSimComp2
/- Sim, part 19b: the tables of a program as tries, and the compiler over them. -/
namespace Sim
open Go

noncomputable def tabFrom {α : Type} (l : List α) : Bp → PT α → PT α :=
  List.rec (motive := fun _ => Bp → PT α → PT α) (fun _ t => t) (fun x _ ih p t => PT.force (t.put p (some x)) fun t => forceB p.succ fun p => ih p t) l
noncomputable def tabOf {α : Type} (l : List α) : PT α := tabFrom l .e .nil
theorem tabFrom_cons {α : Type} (x : α) (l : List α) (p : Bp) (t : PT α) : tabFrom (x :: l) p t = tabFrom l p.succ (t.put p (some x)) := by
  have e : tabFrom (x :: l) p t = PT.force (t.put p (some x)) fun t => forceB p.succ fun p => tabFrom l p t := rfl
  rw [e, PT.force_eq, forceB_eq]
theorem tabFrom_get {α : Type} : ∀ (l : List α) (p : Bp) (t : PT α) (q : Bp), (tabFrom l p t).get q = if p.dec ≤ q.dec ∧ q.dec < p.dec + l.length then l[q.dec - p.dec]? else t.get q := by
  intro l
  induction l with
  | nil => intro p t q; rw [if_neg (by simp)]; rfl
  | cons v l ih =>
    intro p fr q
    rw [tabFrom_cons, ih, Bp.dec_succ]
    by_cases h1 : q.dec = p.dec
    · have := Bp.dec_inj _ _ h1; subst this
      rw [if_neg (by omega), PT.get_put_same, if_pos (by simp)]
      simp
    · rw [PT.get_put_ne _ _ _ _ (fun e => h1 (by rw [e]))]
      by_cases h2 : p.dec + 1 ≤ q.dec ∧ q.dec < p.dec + 1 + l.length
      · rw [if_pos h2, if_pos (by simp only [List.length_cons]; omega)]
        have : q.dec - p.dec = (q.dec - (p.dec + 1)) + 1 := by omega
        rw [this]; simp
      · rw [if_neg h2, if_neg (by simp only [List.length_cons]; omega)]
theorem tabOf_get {α : Type} (l : List α) (i : Nat) : (tabOf l).get (Bp.enc i) = l[i]? := by
  unfold tabOf
  rw [tabFrom_get, Bp.dec_enc]
  have e0 : Bp.e.dec = 0 := rfl
  rw [e0]
  by_cases h : i < l.length
  · rw [if_pos (by omega)]; simp
  · rw [if_neg (by omega)]; simp; omega

noncomputable def infoT (P : Program) (t : TypeId) : Option TypeInfo := match (tabOf P.types.toList).get (Bp.enc t) with | some i => some i | none => P.info? t
theorem infoT_eq (P : Program) : infoT P = P.info? := by
  funext t
  unfold infoT
  rw [tabOf_get]
  split
  · rename_i i h
    have h : P.types[t]? = some i := by simpa using h
    have hlt : t < P.types.size := (Array.getElem?_eq_some_iff.1 h).1
    show _ = Tables.info? _ t
    unfold Tables.info?
    rw [if_pos hlt]; exact h.symm
  · rfl
noncomputable def undT (P : Program) (t : TypeId) : Option TypeDesc :=
  match infoT P t with
  | some { desc := .named _ u, .. } => (infoT P u).map (·.desc)
  | some i => some i.desc
  | none => none
theorem undT_eq (P : Program) : undT P = P.underlying := by
  funext t
  unfold undT Program.underlying
  rw [infoT_eq]; rfl
noncomputable def funcT (P : Program) (f : Nat) : Option Func := (tabOf P.funcs.toList).get (Bp.enc f)
theorem funcT_eq (P : Program) (f : Nat) : funcT P f = P.funcs[f]? := by unfold funcT; rw [tabOf_get]; simp

noncomputable def fieldsDT (P : Program) (desc : TypeId → Option EqD) (fs : List Field) : Option EqF :=
  match fs with
  | [] => some .nil
  | f :: r =>
    match decide (f.name = "_"), infoT P f.type, (undT P f.type), desc f.type, fieldsDT P desc r with
    | false, some i, some u, some d, some r => some (.cons f.offset i.size (aggOf u) d r)
    | _, _, _, _, _ => none
noncomputable def eqDescT (P : Program) : Nat → TypeId → Option EqD
  | 0, _ => none
  | n + 1, t =>
    match undT P t with
    | some .bool => some .bool
    | some (.int _) => some .int
    | some .string => some .str
    | some (.pointer e) => (match infoT P e with | some i => bsel (Nat.beq i.size 0) none (some .ptr) | none => none)
    | some (.interface _) => some .iface
    | some (.slice _) => some .slice
    | some (.map _ _) => some .map
    | some (.func _ _ _) => some .func
    | some (.struct fs) => bsel (P.stoodInHeld t) none (match fieldsDT P (eqDescT P n) fs.toList with | some l => some (.struct l) | none => none)
    | some (.array len e) =>
      (match infoT P e, undT P e with
      | some i, some (.int .u8) => bsel (Nat.beq i.size 1) (some (.bytes len)) none
      | some i, some u => (match eqDescT P n e with | some d => some (.array len i.size (aggOf u) d) | none => none)
      | _, _ => none)
    | _ => none

noncomputable def placeFT (P : Program) (fs : Array Field) (i : Nat) : Option (Nat × Nat) := (fs[i]?).map fun f => (f.offset, ((infoT P f.type).map (·.size)).getD 0)
noncomputable def allInfoT (P : Program) (l : List Field) : Bool := l.all fun f => (infoT P f.type).isSome
noncomputable def eqForT (P : Program) (op : BinOp) (t : TypeId) : Option EqD :=
  match op with
  | .eql | .neq => (match eqDescT P 40 t with
    | some d => bsel (aggD d) (bsel (P.eqGuardType P.depth t) none (some d)) (some d)
    | none => none)
  | _ => none
noncomputable def convKindT (P : Program) (s d : TypeId) : Option ConvK :=
  match undT P s, undT P d with
  | some _, some (.int k) => some (.toInt k)
  | some .string, some .string => some .same
  | some .string, some (.slice e) => (match undT P e with | some (.int .u8) => some (.bytesOf e) | _ => none)
  | some (.slice e), some .string => (match undT P e with | some (.int .u8) => some .strOf | _ => none)
  | _, _ => none
noncomputable def keyOfT (P : Program) (t : TypeId) : Option (TypeId × EqD) :=
  match undT P t with
  | some (.map k e) => (match eqDescT P 40 k with | some d => bsel (deepKey 40 d) (some (e, d)) none | none => none)
  | _ => none
noncomputable def lenKindT (P : Program) (t : TypeId) : Option LenK :=
  match undT P t with
  | some .string => some .str
  | some (.slice _) => some .slice
  | some (.map _ _) => some .map
  | some (.array n _) => some (.const n)
  | some (.pointer a) => (match undT P a with | some (.array n _) => some (.const n) | _ => none)
  | _ => none
noncomputable def srcKindT (P : Program) (u : TypeId) (size : Nat) : Option SrcK :=
  match undT P u with
  | some (.slice _) => some .slice
  | some .string => bsel (Nat.beq size 1) (some .str) none
  | some (.int _) => some .zeros
  | _ => none

noncomputable def compBuiltinT (P : Program) (b : Builtin) (ats : List TypeId) (args : List Operand) : Option COp :=
  match b, ats, args with
  | .len, t :: _, [x] => (match lenKindT P t, cArg x with | some k, some x => some (.len k x) | _, _ => none)
  | .cap, t :: _, [x] => (match undT P t, cArg x with | some (.slice _), some x => some (.len .cap x) | _, _ => none)
  | .append, [t, u], [s, x] => (match undT P t, cArg s, cArg x with
    | some (.slice e), some s, some x => (match infoT P e with
      | some i => (match zrow i, srcKindT P u i.size with | some z, some k => bsel (zerosFit k i.bytes) (some (.append e i.size i.bytes z k s x)) none | _, _ => none)
      | none => none)
    | _, _, _ => none)
  | .copy, [t, u], [d, s] => (match undT P t, undT P u, cArg d, cArg s with
    | some (.slice e), some su, some d, some s => (match infoT P e, su with
      | some i, .slice _ => some (.copy false i.size d s)
      | some i, .string => bsel (Nat.beq i.size 1) (some (.copy true i.size d s)) none
      | _, _ => none)
    | _, _, _, _ => none)
  | .clear, [t], [x] => (match undT P t, cArg x with
    | some (.slice e), some x => (match infoT P e with | some i => (match zrow i with | some z => some (.clear z x) | none => none) | none => none)
    | _, _ => none)
  | .max, _, [x, y] => (match cArg x, cArg y with | some x, some y => some (.minmax true x y) | _, _ => none)
  | .min, _, [x, y] => (match cArg x, cArg y with | some x, some y => some (.minmax false x y) | _, _ => none)
  | .delete, t :: _, [m, k] => (match keyOfT P t, cArg m, cArg k with | some (_, d), some m, some k => some (.delete d m k) | _, _, _ => none)
  | _, _, _ => none

noncomputable def compOpT (P : Program) (op : Op) : Option COp :=
  match op with
  | .move x => (match cArg x with | some x => some (.mov x) | none => none)
  | .assign x => (match cArg x with | some x => some (.mov x) | none => none)
  | .pick c a b => (match cArg c, cArg a, cArg b with | some c, some a, some b => some (.pick c a b) | _, _, _ => none)
  | .alloc t => (match infoT P t with | some i => (match zrow i with | some z => some (.new t z) | none => none) | none => none)
  | .box t x => (match cArg x with | some x => some (.box t x) | none => none)
  | .build t parts => (match undT P t, infoT P t with
    | some (.struct fs), some i => (match zrow i, cParts (placeFT P fs) parts.toList, allInfoT P fs.toList with | some z, some ps, true => some (.build z ps) | _, _, _ => none)
    | some (.array _ e), some i => (match infoT P e with | some j => (match zrow i, cParts (placeA j.size) parts.toList with | some z, some ps => some (.build z ps) | _, _ => none) | none => none)
    | _, _ => none)
  | .buildSlice t len parts => (match undT P t with
    | some (.slice e) => (match infoT P e with
      | some i => bsel (Nat.ble (Nat.mul len i.size) 16777216) (match zrow i, cParts (placeA i.size) parts.toList with | some z, some ps => some (.buildSlice e len z ps) | _, _ => none) none
      | none => none)
    | _ => none)
  | .load t x => (match undT P t, infoT P t, cArg x with | some u, some i, some x => bsel (aggOf u) (some (.loadN i.size x)) (some (.load1 x)) | _, _, _ => none)
  | .store t x y => (match infoT P t, cArg x, cArg y with | some i, some x, some y => some (.store i.size x y) | _, _, _ => none)
  | .nilCheck x => (match cArg x with | some x => some (.nil x) | none => none)
  | .binOp op t x y _ => (match cArg x, cArg y with | some x', some y' => some (.bin op (eqForT P op t) (cstOf x y) x' y') | _, _ => none)
  | .unOp op _ x => (match cArg x with | some x => some (.un op x) | none => none)
  | .convert s d x => (match convKindT P s d, cArg x with | some c, some x => some (.conv c x) | _, _ => none)
  | .sliceToArrayPointer t x => (match undT P t, cArg x with | some (.array n _), some x => some (.s2ap n x) | _, _ => none)
  | .makeInterface t x => (match (match undT P t with | some (.interface _) | none => false | _ => true), cArg x with | true, some x => some (.iface t x) | _, _ => none)
  | .makeFunc fn f c => (match cArgs f.toList, cArgs c.toList with | some f, some c => some (.func fn f c) | _, _ => none)
  | .makeMap t r => (match undT P t, cOpt r with | some (.map _ _), some r => some (.mkMap r) | _, _ => none)
  | .makeSlice t l c => (match undT P t, cArg l, cArg c with
    | some (.slice e), some l, some c => (match infoT P e with | some i => (match zrow i with | some z => some (.mkSlice e i.bytes z l c) | none => none) | none => none)
    | _, _, _ => none)
  | .slice t x lo hi mx => (match undT P t, cArg x, cOpt lo, cOpt hi, cOpt mx with
    | some .string, some x, some lo, some hi, some none => some (.sliceStr x lo hi)
    | some (.slice e), some x, some lo, some hi, some none => (match infoT P e with | some i => some (.sliceSl i.size x lo hi) | none => none)
    | some (.slice e), some x, some lo, some (some hi), some (some mx) => (match infoT P e with | some i => some (.slice3 i.size x lo hi mx) | none => none)
    | some (.array n e), some x, some lo, some hi, some none => (match infoT P e with | some i => some (.sliceArr n i.size x lo hi) | none => none)
    | _, _, _, _, _ => none)
  | .fieldAddr t x f => (match undT P t, cArg x with
    | some (.struct fs), some x => (match fs[f]? with
      | some fd => (match infoT P fd.type with | some i => bsel (Nat.beq i.size 0) none (some (.fieldAddr fd.offset x)) | none => none)
      | none => none)
    | _, _ => none)
  | .field t x f => (match undT P t, cArg x with
    | some (.struct fs), some x => (match fs[f]? with
      | some fd => (match infoT P fd.type, undT P fd.type with | some i, some u => some (.field (aggOf u) fd.offset i.size x) | _, _ => none)
      | none => none)
    | _, _ => none)
  | .indexAddr t x i => (match undT P t, cArg x, cArg i with
    | some (.array n e), some x, some i => (match infoT P e with | some j => some (.idxArr n j.size x i) | none => none)
    | some (.slice e), some x, some i => (match infoT P e with | some j => some (.idxSl j.size x i) | none => none)
    | _, _, _ => none)
  | .index t x i => (match undT P t, cArg x, cArg i with
    | some .string, some x, some i => some (.idxStr x i)
    | some (.array n e), some x, some i => (match infoT P e, undT P e with | some j, some u => some (.idxAgg n j.size (aggOf u) x i) | _, _ => none)
    | _, _, _ => none)
  | .lookup t x k ok => (match keyOfT P t, cArg x, cArg k with
    | some (e, d), some x, some k => (match infoT P e with | some i => (match zval i with | some z => some (.lookup d z ok x k) | none => none) | none => none)
    | _, _, _ => none)
  | .mapUpdate t m k x | .insert t m k x => (match keyOfT P t, cArg m, cArg k, cArg x with | some (_, d), some m, some k, some x => some (.mapUpdate d m k x) | _, _, _, _ => none)
  | .mapEntry t m k => (match keyOfT P t, cArg m, cArg k with
    | some (e, d), some m, some k => (match infoT P e with | some i => (match zval i with | some z => some (.mapEntry d z m k) | none => none) | none => none)
    | _, _, _ => none)
  | .entryStore _ m s x => (match cArg m, cArg s, cArg x with | some m, some s, some x => some (.entryStore m s x) | _, _, _ => none)
  | .extract x i => (match cArg x with | some x => some (.extract x i) | none => none)
  | .call { callee := .builtin b, args, argTypes } => compBuiltinT P b argTypes.toList args.toList
  | .call { callee := .value (.func f), args, .. } => (match cArgs args.toList with | some l => some (.call f l) | none => none)
  | .call { callee := .value f, args, .. } => (match cArg f, cArgs args.toList with | some f, some l => some (.callv f l) | _, _ => none)
  | _ => none


theorem fieldsDT_eq (P : Program) (desc : TypeId → Option EqD) (fs : List Field) : fieldsDT P desc fs = fieldsD P desc fs := by
  induction fs with
  | nil => rfl
  | cons f r ih => unfold fieldsDT fieldsD; rw [ih, infoT_eq, undT_eq]; rfl
theorem eqDescT_eq (P : Program) (n : Nat) : eqDescT P n = eqDesc P n := by
  induction n with
  | zero => rfl
  | succ n ih =>
    funext t
    unfold eqDescT eqDesc
    rw [undT_eq, infoT_eq, ih]
    simp only [fieldsDT_eq]
    rfl
theorem placeFT_eq (P : Program) : placeFT P = placeF P := by
  funext fs i
  unfold placeFT placeF Program.cellsOf
  rw [infoT_eq]
theorem allInfoT_eq (P : Program) : allInfoT P = allInfo P := by funext l; unfold allInfoT allInfo; rw [infoT_eq]
theorem eqForT_eq (P : Program) : eqForT P = eqFor P := by funext op t; unfold eqForT eqFor; rw [eqDescT_eq]; rfl
theorem convKindT_eq (P : Program) : convKindT P = convKind P := by funext s d; unfold convKindT convKind; rw [undT_eq]; rfl
theorem keyOfT_eq (P : Program) : keyOfT P = keyOf P := by funext t; unfold keyOfT keyOf; rw [undT_eq, eqDescT_eq]; rfl
theorem lenKindT_eq (P : Program) : lenKindT P = lenKind P := by funext t; unfold lenKindT lenKind; rw [undT_eq]; rfl
theorem srcKindT_eq (P : Program) : srcKindT P = srcKind P := by funext t s; unfold srcKindT srcKind; rw [undT_eq]; rfl
theorem compBuiltinT_eq (P : Program) : compBuiltinT P = compBuiltin P := by
  funext b ats args
  unfold compBuiltinT compBuiltin
  rw [undT_eq, infoT_eq, lenKindT_eq, srcKindT_eq, keyOfT_eq]; rfl
theorem compOpT_eq (P : Program) (op : Op) : compOpT P op = compOp P op := by
  unfold compOpT compOp
  rw [undT_eq, infoT_eq, allInfoT_eq, eqForT_eq, convKindT_eq, keyOfT_eq, placeFT_eq, compBuiltinT_eq]
  rfl
end Sim
