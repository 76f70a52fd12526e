import Derived.Test.YtfojoloiahhphaaGreatDoorSimI6
import Derived.Test.YtfojoloiahhphaaGreatDoorSimR
/- Sim, part 47: tables of contracts in which calls are asked in a small memory of their own. -/
namespace Sim
open Go
noncomputable def reloO (o : Option FunX) : Option FunX := Option.rec none (fun F => some (reloG F)) o
/-- What a function of a table answers is so. -/
def Strong (P : Program) (f : Nat) (call : CallF) (o : Option FunX) : Prop := ∀ g, o = some g → ∀ args st v st', g call args st = .ok v st' → callable P f = true ∧ CallOK P f args st v st'
section
variable {P : Program} {f : Nat} {call : CallF}
theorem Strong.out {o : Option FunX} (h : Strong P f call o) : ∀ g, o = some g → ∀ args st v st', g call args st = .ok v st' → CallOut P f args st v st' :=
  fun g hg args st v st' hv => .inl (h g hg args st v st' hv)
theorem funXK_strong (hm : P.follows .mixedOrders = true) (hc : CallSound P call) : Strong P f call (funXK P f) :=
  fun _ hg _ _ _ _ h => funXK_plain hm hg hc h
theorem snapI_strong {S : Snap} {call0 : CallF} {o : Option FunX} (hm : P.follows .mixedOrders = true) (h0 : CallSound P call0) (hs : S.isF P f call0 = true) (ho : Strong P f call o) : Strong P f call (snapI S o) := by
  intro g hg args st v st' h
  cases o with
  | none => cases hg
  | some g0 =>
    cases hg
    unfold snapG at h
    rw [bsel_eq] at h
    split at h
    · rename_i hfit
      cases h
      unfold Snap.isF at hs
      cases hF : funXK P f with
      | none => rw [hF] at hs; cases hs
      | some F => rw [hF] at hs; exact snap_ok hm hF h0 hs hfit
    · exact ho g0 rfl _ _ _ _ h
theorem reloO_strong {o : Option FunX} (ho : Strong P f call o) : Strong P f call (reloO o) := by
  intro g hg args st v st' h
  cases o with
  | none => cases hg
  | some g0 => cases hg; exact reloG_ok (fun _ _ _ _ h => ho g0 rfl _ _ _ _ h) h
end
end Sim
