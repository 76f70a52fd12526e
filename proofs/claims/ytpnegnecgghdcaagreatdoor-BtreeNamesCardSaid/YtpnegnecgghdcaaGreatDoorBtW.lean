import Derived.Test.YtpnegnecgghdcaaGreatDoorWk
import Derived.Test.YtpnegnecgghdcaaGreatDoorSnT
import Derived.Test.YtpnegnecgghdcaaGreatDoorSimInst
namespace Sim
open Go Go.Proofs
theorem I3_sound : IntXSound P0 I3 := by
  intro f g h call hc args st v st' hv
  unfold I3 at h
  rw [bsel_eq] at h
  split at h
  · rename_i e
    rw [Nat.beq_eq] at e
    subst e
    have h0 := runX_sound P0_mixed I2_sound 100
    exact snapI_sound P0_mixed h0 sA_is (snapI_sound P0_mixed h0 sB_is (snapI_sound P0_mixed h0 sC_is (funXK_out P0_mixed hc))) g h args st v st' hv
  · exact I2_sound f g h call hc args st v st' hv
theorem works_out (call : CallF) (args : List CV) (st : St) (v : CV) (st' : St) (h : saysG (.bool true) call args st = .ok v st') : CallOut P0 5 args st v st' :=
  saysG_sound P0_mixed (runX_sound P0_mixed I3_sound 100) works_is args st v st' h
end Sim
