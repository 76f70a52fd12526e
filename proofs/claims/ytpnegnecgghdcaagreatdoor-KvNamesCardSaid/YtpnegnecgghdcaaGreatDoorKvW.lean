import Derived.Test.YtpnegnecgghdcaaGreatDoorAw
import Derived.Test.YtpnegnecgghdcaaGreatDoorKv
import Derived.Test.YtpnegnecgghdcaaGreatDoorSnT
import Derived.Test.YtpnegnecgghdcaaGreatDoorSimInst
namespace Sim
open Go Go.Proofs
theorem I5_sound : IntXSound P0 I5 := by
  intro f g h call hc args st v st' hv
  unfold I5 at h
  rw [bsel_eq] at h
  split at h
  · rename_i e
    rw [Nat.beq_eq] at e
    subst e
    have h0 := runX_sound P0_mixed I2_sound 100
    exact snapI_sound P0_mixed h0 sA_is (snapI_sound P0_mixed h0 sE_is (snapI_sound P0_mixed h0 sF_is (funXK_out P0_mixed hc))) g h args st v st' hv
  · exact I2_sound f g h call hc args st v st' hv
theorem awake_out (call : CallF) (args : List CV) (st : St) (v : CV) (st' : St) (h : saysG (.bool true) call args st = .ok v st') : CallOut P0 24 args st v st' :=
  saysG_sound P0_mixed (runX_sound P0_mixed I5_sound 100) awake_is args st v st' h
theorem I6_sound : IntXSound P0 I6 := by
  intro f g h call hc args st v st' hv
  have h0 := runX_sound P0_mixed I2_sound 100
  unfold I6 at h
  rw [bsel_eq] at h
  split at h
  · rename_i e
    rw [Nat.beq_eq] at e
    subst e
    exact snapI_sound P0_mixed h0 sH_is (funXK_out P0_mixed hc) g h args st v st' hv
  rw [bsel_eq] at h
  split at h
  · rename_i e
    rw [Nat.beq_eq] at e
    subst e
    exact snapI_sound P0_mixed h0 sG_is (funXK_out P0_mixed hc) g h args st v st' hv
  rw [bsel_eq] at h
  split at h
  · rename_i e
    rw [Nat.beq_eq] at e
    subst e
    cases h
    exact awake_out call args st v st' hv
  · exact I2_sound f g h call hc args st v st' hv
end Sim
