import Derived.Test.YtfojoloiahhphaaGreatDoorSimI2
/- Sim, part 42: maps.Copy at keys that are ints: what it comes to. -/
namespace Sim
open Go Go.Sort

noncomputable def hasA (a : Int) (es : List Ent) : Bool := anyL es fun e => isA a e.1
noncomputable def keyZ (v : CV) : Int := match v with | .int _ a => a | _ => 0
noncomputable def mergeL (d s : List Ent) : List Ent := List.rec (motive := fun _ => List Ent) s (fun e _ ih => bsel (hasA (keyZ e.1) s) ih (e :: ih)) d
noncomputable def entsA (x : Option Blk) : Option (List Ent) :=
  match x with
  | some (.map es clock) => bsel (bornOK clock es) (some es) none
  | some (.lmap es) => some es
  | _ => none
noncomputable def keysOK (es : List Ent) : Bool := match keysI es with | some l => incrI (isortI l) | none => false
noncomputable def forceE {β : Type} (l : List Ent) : (List Ent → β) → β := List.rec (motive := fun _ => (List Ent → β) → β) (fun k => k []) (fun e _ ih k => ih fun r => k (e :: r)) l
theorem forceE_eq {β : Type} : ∀ (l : List Ent) (k : List Ent → β), forceE l k = k l := by
  intro l
  induction l with
  | nil => intro k; rfl
  | cons e l ih => intro k; exact ih fun r => k (e :: r)
/-- n: how many cells an element has. -/
noncomputable def valsOK (n : Nat) (es : List Ent) : Bool := allL es fun e => match e.2.1 with | .agg s => Bool.and (Nat.beq s.size n) (oneCells s) | _ => false
noncomputable def stripE (es : List Ent) : List Ent := List.rec (motive := fun _ => List Ent) [] (fun e _ ih => (e.1, e.2.1, 0) :: ih) es
noncomputable def copyG (n : Nat) : FunX := fun _ args st =>
  match args with
  | [.map bd, .map bs] => bsel (bpEq bd bs) .bad
      (match entsA (st.mem.get bd), entsA (st.mem.get bs) with
      | some d, some s => bsel (Bool.and (keysOK d) (Bool.and (keysOK s) (valsOK n s))) (forceE (mergeL (stripE d) (stripE s)) fun m => .ok .undef ⟨st.mem.put bd (some (.lmap m)), st.next⟩) .bad
      | _, _ => .bad)
  | _ => .bad
end Sim
