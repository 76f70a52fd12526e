import Derived.Test.YtfojoloiahhphaaGreatDoorSimOp10
import Derived.Scope
import Derived.LoopN
/- Sim, part 17: operations, compiled; what they do. -/
namespace Sim
open Go

abbrev PartA := Nat × Nat × CArg
inductive COp where
  | mov (x : CArg)
  | pick (c a b : CArg)
  | new (t : Nat) (z : Segs CV)
  | box (t : Nat) (x : CArg)
  | build (z : Segs CV) (parts : List PartA)
  | buildSlice (e len : Nat) (z : Segs CV) (parts : List PartA)
  | load1 (a : CArg)
  | loadN (n : Nat) (a : CArg)
  | store (n : Nat) (a x : CArg)
  | nil (x : CArg)
  | bin (op : BinOp) (d : Option EqD) (cst : Bool) (x y : CArg)
  | un (op : UnOp) (x : CArg)
  | conv (c : ConvK) (x : CArg)
  | s2ap (n : Nat) (x : CArg)
  | iface (t : Nat) (x : CArg)
  | func (fn : Fn) (f c : List CArg)
  | mkMap (r : Option CArg)
  | mkSlice (e bytes : Nat) (z : Segs CV) (l c : CArg)
  | sliceStr (x : CArg) (lo hi : Option CArg)
  | sliceSl (size : Nat) (x : CArg) (lo hi : Option CArg)
  | slice3 (size : Nat) (x : CArg) (lo : Option CArg) (hi mx : CArg)
  | sliceArr (n size : Nat) (x : CArg) (lo hi : Option CArg)
  | fieldAddr (off : Nat) (x : CArg)
  | field (agg : Bool) (off size : Nat) (x : CArg)
  | idxArr (n size : Nat) (x i : CArg)
  | idxSl (size : Nat) (x i : CArg)
  | idxStr (x i : CArg)
  | idxAgg (n size : Nat) (agg : Bool) (x i : CArg)
  | lookup (d : EqD) (z : CV) (ok : Bool) (x k : CArg)
  | mapUpdate (d : EqD) (m k x : CArg)
  | mapEntry (d : EqD) (z : CV) (m k : CArg)
  | entryStore (m s x : CArg)
  | extract (x : CArg) (i : Nat)
  | len (k : LenK) (x : CArg)
  | append (e size bytes : Nat) (z : Segs CV) (k : SrcK) (s x : CArg)
  | copy (str : Bool) (size : Nat) (d s : CArg)
  | clear (z : Segs CV) (x : CArg)
  | minmax (mx : Bool) (x y : CArg)
  | delete (d : EqD) (m k : CArg)
  | call (f : Nat) (args : List CArg)
  | callv (f : CArg) (args : List CArg)

noncomputable def evL (fr : Fr) (l : List CArg) : List CV := List.rec [] (fun x _ r => ev fr x :: r) l
noncomputable def evO (fr : Fr) (x : Option CArg) : Option CV := Option.rec none (fun x => some (ev fr x)) x
noncomputable def evP (fr : Fr) (l : List PartA) : List Part := List.rec [] (fun p _ r => (p.1, p.2.1, ev fr p.2.2) :: r) l
abbrev CallF := Nat → List CV → St → OR
noncomputable def pCallv (call : CallF) (f : CV) (args : List CV) (st : St) : OR :=
  match f with | .func (.func f) first captured => call f (row first ++ (args ++ row captured)) st | _ => .bad

noncomputable def runOp (call : CallF) (op : COp) (fr : Fr) (st : St) : OR :=
  match op with
  | .mov x => .ok (ev fr x) st
  | .pick c a b => pPick (ev fr c) (ev fr a) (ev fr b) st
  | .new t z => pNew t z st
  | .box t x => (ev fr x).segs.force fun s => pNew t s st
  | .build z parts => pBuild z (evP fr parts) st
  | .buildSlice e len z parts => pBuildSlice e len (repS len z) (evP fr parts) st
  | .load1 a => pLoad1 (ev fr a) st
  | .loadN n a => pLoadN n (ev fr a) st
  | .store n a x => pStore n (ev fr a) (ev fr x) st
  | .nil x => pNil (ev fr x) st
  | .bin op d cst x y => pBin op d cst (ev fr x) (ev fr y) st
  | .un op x => pUn op (ev fr x) st
  | .conv c x => pConv c (ev fr x) st
  | .s2ap n x => pS2ap n (ev fr x) st
  | .iface t x => pIface t (ev fr x) st
  | .func fn f c => pFunc fn (evL fr f) (evL fr c) st
  | .mkMap r => pMkMap (evO fr r) st
  | .mkSlice e bytes z l c => pMake e bytes z (ev fr l) (ev fr c) st
  | .sliceStr x lo hi => pSliceStr (ev fr x) (evO fr lo) (evO fr hi) st
  | .sliceSl size x lo hi => pSliceSl size (ev fr x) (evO fr lo) (evO fr hi) st
  | .slice3 size x lo hi mx => pSlice3 size (ev fr x) (evO fr lo) (ev fr hi) (ev fr mx) st
  | .sliceArr n size x lo hi => pSliceArr n size (ev fr x) (evO fr lo) (evO fr hi) st
  | .fieldAddr off x => pFieldAddr off (ev fr x) st
  | .field agg off size x => pField agg off size (ev fr x) st
  | .idxArr n size x i => pIdxArr n size (ev fr x) (ev fr i) st
  | .idxSl size x i => pIdxSl size (ev fr x) (ev fr i) st
  | .idxStr x i => pIdxStr (ev fr x) (ev fr i) st
  | .idxAgg n size agg x i => pIdxAgg n size agg (ev fr x) (ev fr i) st
  | .lookup d z ok x k => pLookup d z ok (ev fr x) (ev fr k) st
  | .mapUpdate d m k x => pMapUpdate d (ev fr m) (ev fr k) (ev fr x) st
  | .mapEntry d z m k => pMapEntry d z (ev fr m) (ev fr k) st
  | .entryStore m s x => pEntryStore (ev fr m) (ev fr s) (ev fr x) st
  | .extract x i => pExtract (ev fr x) i st
  | .len k x => pLen k (ev fr x) st
  | .append e size bytes z k s x => pAppend e size bytes (ev fr s) (srcOf k size z (ev fr x) st) st
  | .copy str size d s => pCopy str size (ev fr d) (ev fr s) st
  | .clear z x => pClear z (ev fr x) st
  | .minmax mx x y => pMM mx (ev fr x) (ev fr y) st
  | .delete d m k => pDelete d (ev fr m) (ev fr k) st
  | .call f args => call f (evL fr args) st
  | .callv f args => pCallv call (ev fr f) (evL fr args) st

/- compiling -/
def callable (P : Program) (f : Nat) : Bool := match P.funcs[f]? with | some fn => !(fn.name == "runtime.NumGoroutine") && fn.body.isSome | none => false

def CallOK (P : Program) (f : Nat) (args : List CV) (st : St) (v : CV) (st' : St) : Prop :=
  ∀ (ρ : Ren) (w : World) (args' : Array Value), WR ρ st w → VRs ρ args args'.toList →
    Calls P f args' w fun e w' => ∃ v' ρ', e = .returned v' ∧ VR ρ' v v' ∧ After ρ st w ρ' st' w'
/-- A function of the model's own, that only answers. -/
def ExtOK (P : Program) (f : Nat) (args : List CV) (st : St) (v : CV) (st' : St) : Prop :=
  st' = st ∧ ∀ (ρ : Ren) (w : World) (args' : Array Value), WR ρ st w → VRs ρ args args'.toList → ∃ v', (callFunc f args').run P w = .ok (.value v') w ∧ VR ρ v v'
def CallOut (P : Program) (f : Nat) (args : List CV) (st : St) (v : CV) (st' : St) : Prop := (callable P f = true ∧ CallOK P f args st v st') ∨ ExtOK P f args st v st'
def CallSound (P : Program) (call : CallF) : Prop := ∀ f args st v st', call f args st = .ok v st' → CallOut P f args st v st'

/-- Single bytes into packed ones. -/
noncomputable def pack (s : Segs CV) : Segs CV :=
  Segs.rec (motive := fun _ => Segs CV) .nil (fun v _ ih => match v with | .int .u8 (.ofNat n) => bsel (Nat.ble (Nat.succ n) 256) (Segs.consB 1 n ih) (.one v ih) | _ => .one v ih) (fun n val _ ih => Segs.consB n val ih) s
theorem row_pack (s : Segs CV) : row (pack s) = row s := by
  induction s with
  | nil => rfl
  | one v r ih =>
    have e : pack (.one v r) = (match v with | .int .u8 (.ofNat n) => bsel (Nat.ble (Nat.succ n) 256) (Segs.consB 1 n (pack r)) (.one v (pack r)) | _ => .one v (pack r)) := rfl
    rw [e]
    split
    · rename_i n
      simp only [bsel_eq, Nat.ble_eq]
      split
      · rename_i hn
        rw [row, Segs.cells_consB]
        show (ub 1 n).map byteV ++ row (pack r) = CV.int .u8 (.ofNat n) :: row r
        rw [ih]
        have : n % 256 = n := Nat.mod_eq_of_lt hn
        simp [ub, byteV, this]
      · exact congrArg (List.cons _) ih
    · exact congrArg (List.cons _) ih
  | bytes n val r ih =>
    show row (Segs.consB n val (pack r)) = _
    rw [row, Segs.cells_consB]
    show (ub n val).map byteV ++ row (pack r) = (ub n val).map byteV ++ row r
    rw [ih]
/-- 'as the kernel has it': the type's row. -/
noncomputable def zrow (i : TypeInfo) : Option (Segs CV) :=
  match i.zero with
  | some z => bsel (Nat.beq z.cells.size i.size) (Option.rec none (fun s => some ((pack s).force fun s => s)) (ofCells z.cells.toList)) none
  | none => none
theorem zrow_some {i : TypeInfo} {s : Segs CV} (h : zrow i = some s) : ∃ z, i.zero = some z ∧ z.cells.size = i.size ∧ ∀ ρ, VRs ρ (row s) z.cells.toList := by
  unfold zrow at h
  split at h
  · rename_i z hz
    simp only [bsel_eq, Nat.beq_eq] at h
    split at h
    · rename_i hs
      cases hc : ofCells z.cells.toList with
      | none => rw [hc] at h; cases h
      | some s' =>
        rw [hc] at h
        have h' : (pack s').force (fun s => s) = s := Option.some.inj h
        rw [Segs.force_eq] at h'; subst h'
        exact ⟨z, hz, hs, fun ρ => by rw [row_pack]; exact ofCells_some _ _ hc ρ⟩
    · cases h
  · cases h
noncomputable def zval (i : TypeInfo) : Option CV := match i.zero with | some z => ofValue z | none => none
theorem zval_some {i : TypeInfo} {c : CV} (h : zval i = some c) : ∃ z, i.zero = some z ∧ ∀ ρ, VR ρ c z := by
  unfold zval at h
  split at h
  · rename_i z hz; exact ⟨z, hz, fun ρ => VR.ofValue h ρ⟩
  · cases h

noncomputable def cArgs (l : List Operand) : Option (List CArg) := List.rec (some []) (fun x _ r => Option.rec none (fun r => Option.rec none (fun c => some (c :: r)) (cArg x)) r) l
noncomputable def cOpt (x : Option Operand) : Option (Option CArg) := match x with | none => some none | some x => (match cArg x with | some c => some (some c) | none => none)
noncomputable def cParts (place : Nat → Option (Nat × Nat)) (l : List (Nat × Operand)) : Option (List PartA) :=
  List.rec (some []) (fun p _ r => Option.rec none (fun r => (match place p.1, cArg p.2 with | some (off, size), some c => some ((off, size, c) :: r) | _, _ => none)) r) l

section
variable {P : Program} {ρ : Ren} {st st' : St} {w : World} {v : CV} {fr : Fr} {a : Act}
theorem cArgs_sound : ∀ {l : List Operand} {c : List CArg}, cArgs l = some c → FR ρ fr a.tmps → VRs ρ (evL fr c) (l.map a.eval) := by
  intro l
  induction l with
  | nil => intro c h _; cases h; exact VRs.nil ρ
  | cons x l ih =>
    intro c h hf
    have e : cArgs (x :: l) = Option.rec none (fun r => Option.rec none (fun c => some (c :: r)) (cArg x)) (cArgs l) := rfl
    rw [e] at h
    cases hl : cArgs l with
    | none => rw [hl] at h; cases h
    | some r =>
      rw [hl] at h
      cases hx : cArg x with
      | none => rw [hx] at h; cases h
      | some c' =>
        rw [hx] at h; cases h
        exact VRs.cons (ev_sound hx hf) (ih hl hf)
theorem cOpt_sound {x : Option Operand} {c : Option CArg} (h : cOpt x = some c) (hf : FR ρ fr a.tmps) : BR2 ρ (evO fr c) (x.map a.eval) := by
  unfold cOpt at h
  split at h
  · cases h; trivial
  · split at h
    · rename_i x c' hc; cases h; exact ev_sound hc hf
    · cases h
theorem cParts_sound {place : Nat → Option (Nat × Nat)} : ∀ {l : List (Nat × Operand)} {c : List PartA}, cParts place l = some c → FR ρ fr a.tmps → PartsR ρ place (evP fr c) (l.map fun p => (p.1, a.eval p.2)) := by
  intro l
  induction l with
  | nil => intro c h _; cases h; exact .nil
  | cons p l ih =>
    intro c h hf
    have e : cParts place (p :: l) = Option.rec none (fun r => (match place p.1, cArg p.2 with | some (off, size), some c => some ((off, size, c) :: r) | _, _ => none)) (cParts place l) := rfl
    rw [e] at h
    cases hl : cParts place l with
    | none => rw [hl] at h; cases h
    | some r =>
      rw [hl] at h
      dsimp only at h
      split at h
      · rename_i off size c' h1 h2
        cases h
        exact .cons p.1 off size (ev fr c') _ _ _ h1 (ev_sound h2 hf) (ih hl hf)
      · cases h
end
end Sim
