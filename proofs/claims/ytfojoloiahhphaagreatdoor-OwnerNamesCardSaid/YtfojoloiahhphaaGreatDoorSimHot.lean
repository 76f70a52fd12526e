import Derived.Test.YtfojoloiahhphaaGreatDoorSimFast
/- Sim, part 19c: the operations by recursors whose minor premises are closed: what the kernel unfolds is small. -/
namespace Sim
open Go

noncomputable def onPtr (v : CV) : (Bp → Nat → OR) → OR := CV.rec (motive_1 := fun _ => (Bp → Nat → OR) → OR) (motive_2 := fun _ => PUnit) (fun _ => .bad) (fun _ => fun _ => .bad) (fun _ _ => fun _ => .bad) (fun _ _ => fun _ => .bad) (fun _ => .bad) (fun b o => fun k => k b o) (fun _ => .bad) (fun _ _ _ _ _ => fun _ => .bad) (fun _ => .bad) (fun _ => fun _ => .bad) (fun _ _ _ _ _ => fun _ => .bad) (fun _ => .bad) (fun _ _ _ => fun _ => .bad) (fun _ => .bad) (fun _ _ => fun _ => .bad) (fun _ _ => fun _ => .bad) (fun _ => fun _ => .bad) PUnit.unit (fun _ _ _ _ => PUnit.unit) (fun _ _ _ _ => PUnit.unit) v
theorem onPtr_eq (v : CV) (k : Bp → Nat → OR) : onPtr v k = (match v with | .ptr b o => k b o | _ => .bad) := by cases v <;> rfl
noncomputable def onBool (v : CV) : (Bool → OR) → OR := CV.rec (motive_1 := fun _ => (Bool → OR) → OR) (motive_2 := fun _ => PUnit) (fun _ => .bad) (fun b => fun k => k b) (fun _ _ => fun _ => .bad) (fun _ _ => fun _ => .bad) (fun _ => .bad) (fun _ _ => fun _ => .bad) (fun _ => .bad) (fun _ _ _ _ _ => fun _ => .bad) (fun _ => .bad) (fun _ => fun _ => .bad) (fun _ _ _ _ _ => fun _ => .bad) (fun _ => .bad) (fun _ _ _ => fun _ => .bad) (fun _ => .bad) (fun _ _ => fun _ => .bad) (fun _ _ => fun _ => .bad) (fun _ => fun _ => .bad) PUnit.unit (fun _ _ _ _ => PUnit.unit) (fun _ _ _ _ => PUnit.unit) v
theorem onBool_eq (v : CV) (k : Bool → OR) : onBool v k = (match v with | .bool b => k b | _ => .bad) := by cases v <;> rfl
noncomputable def onInt (v : CV) : (IntKind → Int → OR) → OR := CV.rec (motive_1 := fun _ => (IntKind → Int → OR) → OR) (motive_2 := fun _ => PUnit) (fun _ => .bad) (fun _ => fun _ => .bad) (fun q n => fun k => k q n) (fun _ _ => fun _ => .bad) (fun _ => .bad) (fun _ _ => fun _ => .bad) (fun _ => .bad) (fun _ _ _ _ _ => fun _ => .bad) (fun _ => .bad) (fun _ => fun _ => .bad) (fun _ _ _ _ _ => fun _ => .bad) (fun _ => .bad) (fun _ _ _ => fun _ => .bad) (fun _ => .bad) (fun _ _ => fun _ => .bad) (fun _ _ => fun _ => .bad) (fun _ => fun _ => .bad) PUnit.unit (fun _ _ _ _ => PUnit.unit) (fun _ _ _ _ => PUnit.unit) v
theorem onInt_eq (v : CV) (k : IntKind → Int → OR) : onInt v k = (match v with | .int q n => k q n | _ => .bad) := by cases v <;> rfl
noncomputable def onSlice (v : CV) : (Bp → Nat → Nat → Nat → Nat → OR) → OR := CV.rec (motive_1 := fun _ => (Bp → Nat → Nat → Nat → Nat → OR) → OR) (motive_2 := fun _ => PUnit) (fun _ => .bad) (fun _ => fun _ => .bad) (fun _ _ => fun _ => .bad) (fun _ _ => fun _ => .bad) (fun _ => .bad) (fun _ _ => fun _ => .bad) (fun _ => .bad) (fun b o l c g => fun k => k b o l c g) (fun _ => .bad) (fun _ => fun _ => .bad) (fun _ _ _ _ _ => fun _ => .bad) (fun _ => .bad) (fun _ _ _ => fun _ => .bad) (fun _ => .bad) (fun _ _ => fun _ => .bad) (fun _ _ => fun _ => .bad) (fun _ => fun _ => .bad) PUnit.unit (fun _ _ _ _ => PUnit.unit) (fun _ _ _ _ => PUnit.unit) v
theorem onSlice_eq (v : CV) (k : Bp → Nat → Nat → Nat → Nat → OR) : onSlice v k = (match v with | .slice b o l c g => k b o l c g | _ => .bad) := by cases v <;> rfl
noncomputable def onAgg (v : CV) : (Segs CV → OR) → OR := CV.rec (motive_1 := fun _ => (Segs CV → OR) → OR) (motive_2 := fun _ => PUnit) (fun _ => .bad) (fun _ => fun _ => .bad) (fun _ _ => fun _ => .bad) (fun _ _ => fun _ => .bad) (fun _ => .bad) (fun _ _ => fun _ => .bad) (fun _ => .bad) (fun _ _ _ _ _ => fun _ => .bad) (fun _ => .bad) (fun _ => fun _ => .bad) (fun _ _ _ _ _ => fun _ => .bad) (fun _ => .bad) (fun _ _ _ => fun _ => .bad) (fun _ => .bad) (fun s _ => fun k => k s) (fun _ _ => fun _ => .bad) (fun _ => fun _ => .bad) PUnit.unit (fun _ _ _ _ => PUnit.unit) (fun _ _ _ _ => PUnit.unit) v
theorem onAgg_eq (v : CV) (k : Segs CV → OR) : onAgg v k = (match v with | .agg s => k s | _ => .bad) := by cases v <;> rfl
noncomputable def onTuple (v : CV) : (Segs CV → OR) → OR := CV.rec (motive_1 := fun _ => (Segs CV → OR) → OR) (motive_2 := fun _ => PUnit) (fun _ => .bad) (fun _ => fun _ => .bad) (fun _ _ => fun _ => .bad) (fun _ _ => fun _ => .bad) (fun _ => .bad) (fun _ _ => fun _ => .bad) (fun _ => .bad) (fun _ _ _ _ _ => fun _ => .bad) (fun _ => .bad) (fun _ => fun _ => .bad) (fun _ _ _ _ _ => fun _ => .bad) (fun _ => .bad) (fun _ _ _ => fun _ => .bad) (fun _ => .bad) (fun _ _ => fun _ => .bad) (fun s _ => fun k => k s) (fun _ => fun _ => .bad) PUnit.unit (fun _ _ _ _ => PUnit.unit) (fun _ _ _ _ => PUnit.unit) v
theorem onTuple_eq (v : CV) (k : Segs CV → OR) : onTuple v k = (match v with | .tuple s => k s | _ => .bad) := by cases v <;> rfl
noncomputable def onStr (v : CV) : (Nat → Nat → OR) → OR := CV.rec (motive_1 := fun _ => (Nat → Nat → OR) → OR) (motive_2 := fun _ => PUnit) (fun _ => .bad) (fun _ => fun _ => .bad) (fun _ _ => fun _ => .bad) (fun n a => fun k => k n a) (fun _ => .bad) (fun _ _ => fun _ => .bad) (fun _ => .bad) (fun _ _ _ _ _ => fun _ => .bad) (fun _ => .bad) (fun _ => fun _ => .bad) (fun _ _ _ _ _ => fun _ => .bad) (fun _ => .bad) (fun _ _ _ => fun _ => .bad) (fun _ => .bad) (fun _ _ => fun _ => .bad) (fun _ _ => fun _ => .bad) (fun _ => fun _ => .bad) PUnit.unit (fun _ _ _ _ => PUnit.unit) (fun _ _ _ _ => PUnit.unit) v
theorem onStr_eq (v : CV) (k : Nat → Nat → OR) : onStr v k = (match v with | .str n a => k n a | _ => .bad) := by cases v <;> rfl

noncomputable def onBlk (x : Option Blk) : (Segs CV → TypeId → Bool → OR) → OR :=
  Option.rec (motive := fun _ => (Segs CV → TypeId → Bool → OR) → OR) (fun _ => .bad) (fun b => Blk.rec (motive := fun _ => (Segs CV → TypeId → Bool → OR) → OR) (fun s t g k => k s t g) (fun _ _ _ => .bad) (fun _ _ => .bad) b) x
theorem onBlk_eq (x : Option Blk) (k : Segs CV → TypeId → Bool → OR) : onBlk x k = (match x with | some (.cells s t g) => k s t g | _ => .bad) := by
  cases x with
  | none => rfl
  | some b => cases b <;> rfl

noncomputable def forceV {β : Type} (v : CV) : (CV → β) → β := CV.rec (motive_1 := fun _ => (CV → β) → β) (motive_2 := fun _ => PUnit) (fun k => k .undef) (fun b => fun k => k (.bool b)) (fun q n => fun k => forceZ n fun n => k (.int q n)) (fun a b => fun k => forceN a fun a => forceN b fun b => k (.str a b)) (fun k => k .nilptr) (fun b off => fun k => forceN off fun off => k (.ptr b off)) (fun k => k .nilslice) (fun b off len cap g => fun k => forceN off fun off => forceN len fun len => forceN cap fun cap => forceN g fun g => k (.slice b off len cap g)) (fun k => k .nilmap) (fun b => fun k => k (.map b)) (fun f a c _ _ => fun k => k (.func f a c)) (fun k => k .nilfunc) (fun t v _ => fun k => k (.iface t v)) (fun k => k .niliface) (fun s _ => fun k => s.force fun s => k (.agg s)) (fun s _ => fun k => s.force fun s => k (.tuple s)) (fun n => fun k => forceN n fun n => k (.atleast n)) PUnit.unit (fun _ _ _ _ => PUnit.unit) (fun _ _ _ _ => PUnit.unit) v
theorem forceV_eq {β : Type} (v : CV) (k : CV → β) : forceV v k = k v := by cases v <;> simp only [forceV, forceZ_eq, forceN_eq, Segs.force_eq]

/- numbers -/
noncomputable def hAr (op : BinOp) : IntKind → Int → Int → St → OR := BinOp.rec (motive := fun _ => IntKind → Int → Int → St → OR) (fun k a b st => forceZ (fwrap k (Int.add a b)) (okZ k st)) (fun k a b st => forceZ (fwrap k (Int.sub a b)) (okZ k st)) (fun k a b st => forceZ (fwrap k (Int.mul a b)) (okZ k st)) (fun k a b st => bsel (zeq b 0) .bad (forceZ (fwrap k (Int.tdiv a b)) (okZ k st))) (fun k a b st => bsel (zeq b 0) .bad (forceZ (Int.tmod a b) (okZ k st))) (fun k a b st => pBits .and k a b st) (fun k a b st => pBits .or k a b st) (fun k a b st => pBits .xor k a b st) (fun _ _ _ _ => .bad) (fun _ _ _ _ => .bad) (fun k a b st => pBits .andNot k a b st) (fun _ a b st => okB (zeq a b) st) (fun _ a b st => okB (Bool.not (zeq a b)) st) (fun _ a b st => okB (zlt a b) st) (fun _ a b st => okB (Bool.not (zlt b a)) st) (fun _ a b st => okB (zlt b a) st) (fun _ a b st => okB (Bool.not (zlt a b)) st) op
theorem hAr_eq (op : BinOp) (k : IntKind) (a b : Int) (st : St) : hAr op k a b st = pInt2 op k a b st := by cases op <;> rfl
noncomputable def hInt (op : BinOp) : IntKind → Int → IntKind → Int → St → OR := BinOp.rec (motive := fun _ => IntKind → Int → IntKind → Int → St → OR) (fun k a j b st => bsel (kbeq k j) (hAr .add k a b st) .bad) (fun k a j b st => bsel (kbeq k j) (hAr .sub k a b st) .bad) (fun k a j b st => bsel (kbeq k j) (hAr .mul k a b st) .bad) (fun k a j b st => bsel (kbeq k j) (hAr .quo k a b st) .bad) (fun k a j b st => bsel (kbeq k j) (hAr .rem k a b st) .bad) (fun k a j b st => bsel (kbeq k j) (hAr .and k a b st) .bad) (fun k a j b st => bsel (kbeq k j) (hAr .or k a b st) .bad) (fun k a j b st => bsel (kbeq k j) (hAr .xor k a b st) .bad) (fun k a _ b st => bsel (zlt b 0) .bad (forceZ (shlZ k a (upto b.toNat (kbits k))) (okZ k st))) (fun k a _ b st => bsel (zlt b 0) .bad (forceZ (shrZ a (upto b.toNat (kbits k))) (okZ k st))) (fun k a j b st => bsel (kbeq k j) (hAr .andNot k a b st) .bad) (fun k a j b st => bsel (kbeq k j) (hAr .eql k a b st) .bad) (fun k a j b st => bsel (kbeq k j) (hAr .neq k a b st) .bad) (fun k a j b st => bsel (kbeq k j) (hAr .lss k a b st) .bad) (fun k a j b st => bsel (kbeq k j) (hAr .leq k a b st) .bad) (fun k a j b st => bsel (kbeq k j) (hAr .gtr k a b st) .bad) (fun k a j b st => bsel (kbeq k j) (hAr .geq k a b st) .bad) op
theorem hInt_eq (op : BinOp) (k j : IntKind) (a b : Int) (st : St) : hInt op k a j b st = pInt op k a j b st := by cases op <;> (unfold hInt pInt; simp only [hAr_eq])
noncomputable def hBinI (y : CV) : IntKind → Int → BinOp → Option EqD → Bool → St → OR := CV.rec (motive_1 := fun _ => IntKind → Int → BinOp → Option EqD → Bool → St → OR) (motive_2 := fun _ => PUnit) (fun k a op d cst st => pBin op d cst (.int k a) (.undef) st) (fun y0 => fun k a op d cst st => pBin op d cst (.int k a) (.bool y0) st) (fun y0 y1 => fun k a op _ _ st => hInt op k a y0 y1 st) (fun y0 y1 => fun k a op d cst st => pBin op d cst (.int k a) (.str y0 y1) st) (fun k a op d cst st => pBin op d cst (.int k a) (.nilptr) st) (fun y0 y1 => fun k a op d cst st => pBin op d cst (.int k a) (.ptr y0 y1) st) (fun k a op d cst st => pBin op d cst (.int k a) (.nilslice) st) (fun y0 y1 y2 y3 y4 => fun k a op d cst st => pBin op d cst (.int k a) (.slice y0 y1 y2 y3 y4) st) (fun k a op d cst st => pBin op d cst (.int k a) (.nilmap) st) (fun y0 => fun k a op d cst st => pBin op d cst (.int k a) (.map y0) st) (fun y0 y1 y2 _ _ => fun k a op d cst st => pBin op d cst (.int k a) (.func y0 y1 y2) st) (fun k a op d cst st => pBin op d cst (.int k a) (.nilfunc) st) (fun y0 y1 _ => fun k a op d cst st => pBin op d cst (.int k a) (.iface y0 y1) st) (fun k a op d cst st => pBin op d cst (.int k a) (.niliface) st) (fun y0 _ => fun k a op d cst st => pBin op d cst (.int k a) (.agg y0) st) (fun y0 _ => fun k a op d cst st => pBin op d cst (.int k a) (.tuple y0) st) (fun y0 => fun k a op d cst st => pBin op d cst (.int k a) (.atleast y0) st) PUnit.unit (fun _ _ _ _ => PUnit.unit) (fun _ _ _ _ => PUnit.unit) y
theorem hBinI_eq (y : CV) (k : IntKind) (a : Int) (op : BinOp) (d : Option EqD) (cst : Bool) (st : St) : hBinI y k a op d cst st = pBin op d cst (.int k a) y st := by cases y <;> first | rfl | exact hInt_eq ..
noncomputable def hBin (x : CV) : CV → BinOp → Option EqD → Bool → St → OR := CV.rec (motive_1 := fun _ => CV → BinOp → Option EqD → Bool → St → OR) (motive_2 := fun _ => PUnit) (fun y op d cst st => pBin op d cst (.undef) y st) (fun x0 => fun y op d cst st => pBin op d cst (.bool x0) y st) (fun x0 x1 => fun y op d cst st => hBinI y x0 x1 op d cst st) (fun x0 x1 => fun y op d cst st => pBin op d cst (.str x0 x1) y st) (fun y op d cst st => pBin op d cst (.nilptr) y st) (fun x0 x1 => fun y op d cst st => pBin op d cst (.ptr x0 x1) y st) (fun y op d cst st => pBin op d cst (.nilslice) y st) (fun x0 x1 x2 x3 x4 => fun y op d cst st => pBin op d cst (.slice x0 x1 x2 x3 x4) y st) (fun y op d cst st => pBin op d cst (.nilmap) y st) (fun x0 => fun y op d cst st => pBin op d cst (.map x0) y st) (fun x0 x1 x2 _ _ => fun y op d cst st => pBin op d cst (.func x0 x1 x2) y st) (fun y op d cst st => pBin op d cst (.nilfunc) y st) (fun x0 x1 _ => fun y op d cst st => pBin op d cst (.iface x0 x1) y st) (fun y op d cst st => pBin op d cst (.niliface) y st) (fun x0 _ => fun y op d cst st => pBin op d cst (.agg x0) y st) (fun x0 _ => fun y op d cst st => pBin op d cst (.tuple x0) y st) (fun x0 => fun y op d cst st => pBin op d cst (.atleast x0) y st) PUnit.unit (fun _ _ _ _ => PUnit.unit) (fun _ _ _ _ => PUnit.unit) x
theorem hBin_eq (x y : CV) (op : BinOp) (d : Option EqD) (cst : Bool) (st : St) : hBin x y op d cst st = pBin op d cst x y st := by cases x <;> first | rfl | exact hBinI_eq ..

noncomputable def hLoad1 (p : CV) (st : St) : OR := onPtr p fun b off => onBlk (st.mem.get b) fun s _ _ => Option.rec .bad (fun v => .ok v st) (s.get byteV off)
theorem hLoad1_eq (p : CV) (st : St) : hLoad1 p st = pLoad1 p st := by unfold hLoad1 pLoad1; rw [onPtr_eq]; simp only [onBlk_eq]; rfl
noncomputable def hLoadN (n : Nat) (p : CV) (st : St) : OR := onPtr p fun b off => onBlk (st.mem.get b) fun s _ _ => Option.rec .bad (fun v => .ok (.agg v) st) (s.extract off n)
theorem hLoadN_eq (n : Nat) (p : CV) (st : St) : hLoadN n p st = pLoadN n p st := by unfold hLoadN pLoadN; rw [onPtr_eq]; simp only [onBlk_eq]; rfl
noncomputable def hStore (n : Nat) (p x : CV) (st : St) : OR := onPtr p fun b off => onBlk (st.mem.get b) fun s t g =>
  (fun xs => bsel (Bool.and (Nat.beq xs.size n) (oneCells xs)) (Option.rec .bad (fun s' => .ok .undef ⟨st.mem.put b (some (.cells s' t g)), st.next⟩) (s.write off xs)) .bad) x.segs
theorem hStore_eq (n : Nat) (p x : CV) (st : St) : hStore n p x st = pStore n p x st := by unfold hStore pStore; rw [onPtr_eq]; simp only [onBlk_eq]; rfl
noncomputable def hFieldAddr (off : Nat) (x : CV) (st : St) : OR := onPtr x fun b o => forceN (Nat.add o off) fun o => .ok (.ptr b o) st
theorem hFieldAddr_eq (off : Nat) (x : CV) (st : St) : hFieldAddr off x st = pFieldAddr off x st := by unfold hFieldAddr pFieldAddr; rw [onPtr_eq]; rfl
noncomputable def hField (agg : Bool) (off size : Nat) (x : CV) (st : St) : OR := onAgg x fun s => Option.rec .bad (fun v => .ok v st) (cpart agg off size s)
theorem hField_eq (agg : Bool) (off size : Nat) (x : CV) (st : St) : hField agg off size x st = pField agg off size x st := by unfold hField pField; rw [onAgg_eq]; rfl
noncomputable def hExtract (x : CV) (i : Nat) (st : St) : OR := onTuple x fun s => Option.rec .bad (fun v => .ok v st) (s.get byteV i)
theorem hExtract_eq (x : CV) (i : Nat) (st : St) : hExtract x i st = pExtract x i st := by unfold hExtract pExtract; rw [onTuple_eq]; rfl
noncomputable def onNat (v : CV) (k : Nat → OR) : OR := onInt v fun _ n => Int.rec (motive := fun _ => (Nat → OR) → OR) (fun j k => k j) (fun _ _ => .bad) n k
theorem onNat_eq (v : CV) (k : Nat → OR) : onNat v k = (match v with | .int _ (.ofNat j) => k j | _ => .bad) := by
  unfold onNat; rw [onInt_eq]
  cases v with
  | int q n => cases n <;> rfl
  | _ => rfl
noncomputable def hIdxArr (n size : Nat) (x i : CV) (st : St) : OR := onPtr x fun b o => onNat i fun j => bsel (Nat.ble (Nat.succ j) n) (forceN (Nat.add o (Nat.mul j size)) fun o => .ok (.ptr b o) st) .bad
theorem hIdxArr_eq (n size : Nat) (x i : CV) (st : St) : hIdxArr n size x i st = pIdxArr n size x i st := by
  unfold hIdxArr pIdxArr; rw [onPtr_eq]; simp only [onNat_eq]
  cases x with
  | ptr b o => cases i with
    | int q n => cases n <;> rfl
    | _ => rfl
  | _ => rfl
noncomputable def hIdxSl (size : Nat) (x i : CV) (st : St) : OR := onSlice x fun b o len cap grow => onNat i fun j => bsel (Bool.and (Nat.ble (Nat.succ j) len) (Bool.or (Nat.beq grow 0) (Nat.ble len cap))) (forceN (Nat.add o (Nat.mul j size)) fun o => .ok (.ptr b o) st) .bad
theorem hIdxSl_eq (size : Nat) (x i : CV) (st : St) : hIdxSl size x i st = pIdxSl size x i st := by
  unfold hIdxSl pIdxSl; rw [onSlice_eq]; simp only [onNat_eq]
  cases x with
  | slice b o l c g => cases i with
    | int q n => cases n <;> rfl
    | _ => rfl
  | _ => rfl
noncomputable def hIdxStr (x i : CV) (st : St) : OR := onStr x fun n a => onNat i fun j => bsel (Nat.ble (Nat.succ j) n) (forceN (bTake (bDrop a j) 1) (okN .u8 st)) .bad
theorem hIdxStr_eq (x i : CV) (st : St) : hIdxStr x i st = pIdxStr x i st := by
  unfold hIdxStr pIdxStr; rw [onStr_eq]; simp only [onNat_eq]
  cases x with
  | str n a => cases i with
    | int q n => cases n <;> rfl
    | _ => rfl
  | _ => rfl

noncomputable def runOpH (op : COp) : CallF → Fr → St → OR := COp.rec (motive := fun _ => CallF → Fr → St → OR)
  (fun x _ fr st => .ok (ev fr x) st)
  (fun c a b _ fr st => pPick (ev fr c) (ev fr a) (ev fr b) st)
  (fun t z _ _ st => pNew t z st)
  (fun t x _ fr st => (ev fr x).segs.force fun s => pNew t s st)
  (fun z parts _ fr st => pBuild z (evP fr parts) st)
  (fun e len z parts _ fr st => pBuildSlice e len (repS len z) (evP fr parts) st)
  (fun a _ fr st => hLoad1 (ev fr a) st)
  (fun n a _ fr st => hLoadN n (ev fr a) st)
  (fun n a x _ fr st => hStore n (ev fr a) (ev fr x) st)
  (fun x _ fr st => pNil (ev fr x) st)
  (fun op d cst x y _ fr st => hBin (ev fr x) (ev fr y) op d cst st)
  (fun op x _ fr st => pUn op (ev fr x) st)
  (fun c x _ fr st => pConv c (ev fr x) st)
  (fun n x _ fr st => pS2ap n (ev fr x) st)
  (fun t x _ fr st => pIface t (ev fr x) st)
  (fun fn f c _ fr st => pFunc fn (evL fr f) (evL fr c) st)
  (fun r _ fr st => pMkMap (evO fr r) st)
  (fun e bytes z l c _ fr st => pMake e bytes z (ev fr l) (ev fr c) st)
  (fun x lo hi _ fr st => pSliceStr (ev fr x) (evO fr lo) (evO fr hi) st)
  (fun size x lo hi _ fr st => pSliceSl size (ev fr x) (evO fr lo) (evO fr hi) st)
  (fun size x lo hi mx _ fr st => pSlice3 size (ev fr x) (evO fr lo) (ev fr hi) (ev fr mx) st)
  (fun n size x lo hi _ fr st => pSliceArr n size (ev fr x) (evO fr lo) (evO fr hi) st)
  (fun off x _ fr st => hFieldAddr off (ev fr x) st)
  (fun agg off size x _ fr st => hField agg off size (ev fr x) st)
  (fun n size x i _ fr st => hIdxArr n size (ev fr x) (ev fr i) st)
  (fun size x i _ fr st => hIdxSl size (ev fr x) (ev fr i) st)
  (fun x i _ fr st => hIdxStr (ev fr x) (ev fr i) st)
  (fun n size agg x i _ fr st => pIdxAgg n size agg (ev fr x) (ev fr i) st)
  (fun d z ok x k _ fr st => pLookup d z ok (ev fr x) (ev fr k) st)
  (fun d m k x _ fr st => pMapUpdate d (ev fr m) (ev fr k) (ev fr x) st)
  (fun d z m k _ fr st => pMapEntry d z (ev fr m) (ev fr k) st)
  (fun m s x _ fr st => pEntryStore (ev fr m) (ev fr s) (ev fr x) st)
  (fun x i _ fr st => hExtract (ev fr x) i st)
  (fun k x _ fr st => pLen k (ev fr x) st)
  (fun e size bytes z k s x _ fr st => pAppend e size bytes (ev fr s) (srcOf k size z (ev fr x) st) st)
  (fun str size d s _ fr st => pCopy str size (ev fr d) (ev fr s) st)
  (fun z x _ fr st => pClear z (ev fr x) st)
  (fun mx x y _ fr st => pMM mx (ev fr x) (ev fr y) st)
  (fun d m k _ fr st => pDelete d (ev fr m) (ev fr k) st)
  (fun f args call fr st => call f (evL fr args) st)
  (fun f args call fr st => pCallv call (ev fr f) (evL fr args) st) op
theorem runOpH_eq (op : COp) (call : CallF) (fr : Fr) (st : St) : runOpH op call fr st = runOp call op fr st := by
  cases op <;> first
    | rfl
    | exact hLoad1_eq ..
    | exact hLoadN_eq ..
    | exact hStore_eq ..
    | exact hFieldAddr_eq ..
    | exact hField_eq ..
    | exact hExtract_eq ..
    | exact hIdxArr_eq ..
    | exact hIdxSl_eq ..
    | exact hIdxStr_eq ..
    | exact hBin_eq ..
end Sim
