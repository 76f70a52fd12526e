import Derived.Test.YtpinmfjiiapgfaaGreatDoorInst
import Derived.Test.YtpinmfjiiapgfaaGreatDoorSnap
import Derived.Test.YtpinmfjiiapgfaaGreatDoorTSnKt
import Derived.Test.YtpinmfjiiapgfaaGreatDoorTSnMt
import Derived.Test.YtpinmfjiiapgfaaGreatDoorTSnNt
import Derived.Test.YtpinmfjiiapgfaaGreatDoorTSnTt
import Derived.Test.YtpinmfjiiapgfaaGreatDoorTSnU0t
import Derived.Test.YtpinmfjiiapgfaaGreatDoorTSnU1t
import Derived.Test.YtpinmfjiiapgfaaGreatDoorTSnV0t
import Derived.Test.YtpinmfjiiapgfaaGreatDoorTSnV1t
import Derived.Test.YtpinmfjiiapgfaaGreatDoorTSnUVt
import Derived.Test.YtpinmfjiiapgfaaGreatDoorTSn6At
import Derived.Test.YtpinmfjiiapgfaaGreatDoorTSn6Ct
import Derived.Test.YtpinmfjiiapgfaaGreatDoorTCut0
import Derived.Test.YtpinmfjiiapgfaaGreatDoorTCut1
import Derived.Test.YtpinmfjiiapgfaaGreatDoorTCut2
import Derived.Test.YtpinmfjiiapgfaaGreatDoorTCut3
import Derived.Test.YtpinmfjiiapgfaaGreatDoorTKeep6
/- KeepNames: all tables are sound. -/
namespace Sim
open Go Go.Proofs
theorem cfgI_sound {call : CallF} (hc : CallSound P0 call) {g : FunX} (h : cfgI = some g) {args : List CV} {st : St} {v : CV} {st' : St} (hv : g call args st = .ok v st') : CallOut P0 125 args st v st' := by
  unfold cfgI at h
  cases hF : funXK P0 125 with
  | none => rw [hF] at h; cases h
  | some F =>
    rw [hF] at h
    cases h
    unfold cfgE at hv
    cases hr : cfgG call args st with
    | ok v1 s1 => rw [hr] at hv; cases hv; exact cfgG_sound call args st v st' hr
    | bad => rw [hr] at hv; exact .inl (funXK_plain P0_mixed hF hc hv)
theorem I2m_sound : IntXSound P0 I2m := by
  intro f g h call hc args st v st' hv
  unfold I2m at h
  rw [bsel_eq] at h
  split at h
  · rename_i e
    rw [Nat.beq_eq] at e
    subst e
    cases h
    exact memG_sound call args st v st' hv
  rw [bsel_eq] at h
  split at h
  · rename_i e
    rw [Nat.beq_eq] at e
    subst e
    exact cfgI_sound hc h hv
  exact I2_sound f g h call hc args st v st' hv
theorem callX2_sound : CallSound P0 callX2 := runX_sound P0_mixed I2m_sound 100
theorem I3_sound : IntXSound P0 I3 := by
  intro f g h call hc args st v st' hv
  unfold I3 at h
  rw [bsel_eq] at h
  split at h
  · rename_i e
    rw [Nat.beq_eq] at e
    subst e
    exact (reloO_strong (snapI_strong P0_mixed callX2_sound sC0_is (funXK_strong P0_mixed hc))).out g h args st v st' hv
  exact I2m_sound f g h call hc args st v st' hv
theorem callO_sound : CallSound P0 callO := runX_sound P0_mixed I3_sound 100
theorem I4_sound : IntXSound P0 I4 := by
  intro f g h call hc args st v st' hv
  unfold I4 at h
  rw [bsel_eq] at h
  split at h
  · rename_i e
    rw [Nat.beq_eq] at e
    subst e
    exact (reloO_strong (snapI_strong P0_mixed callO_sound sA0_is (funXK_strong P0_mixed hc))).out g h args st v st' hv
  exact I2m_sound f g h call hc args st v st' hv
theorem callA_sound : CallSound P0 callA := runX_sound P0_mixed I4_sound 100
theorem do36_strong {call : CallF} (hc : CallSound P0 call) : Strong P0 36 call do36 :=
  snapI_strong P0_mixed callA_sound sM6_is (snapI_strong P0_mixed callA_sound sM7_is (snapI_strong P0_mixed callA_sound sM8_is (snapI_strong P0_mixed callA_sound sM9_is (snapI_strong P0_mixed callA_sound sM10_is (snapI_strong P0_mixed callA_sound sM11_is
    (snapI_strong P0_mixed callA_sound sM13_is (snapI_strong P0_mixed callA_sound sM14_is (snapI_strong P0_mixed callA_sound sM15_is (snapI_strong P0_mixed callA_sound sM16_is (funXK_strong P0_mixed hc))))))))))
theorem I5_sound : IntXSound P0 I5 := by
  intro f g h call hc args st v st' hv
  have k := fun n => funXK_strong (f := n) P0_mixed hc
  unfold I5 at h
  rw [bsel_eq] at h
  split at h
  · rename_i e; rw [Nat.beq_eq] at e; subst e
    exact (dropO_strong (reloO_strong (do36_strong hc))).out g h args st v st' hv
  rw [bsel_eq] at h
  split at h
  · rename_i e; rw [Nat.beq_eq] at e; subst e
    exact (dropO_strong (reloO_strong (snapI_strong P0_mixed callA_sound sM5_is (snapI_strong P0_mixed callA_sound sM12_is (k 34))))).out g h args st v st' hv
  rw [bsel_eq] at h
  split at h
  · rename_i e; rw [Nat.beq_eq] at e; subst e
    exact (snapI_strong P0_mixed callA_sound sK0_is (k 6)).out g h args st v st' hv
  rw [bsel_eq] at h
  split at h
  · rename_i e; rw [Nat.beq_eq] at e; subst e
    exact (reloO_strong (snapI_strong P0_mixed callA_sound sM2_is (k 51))).out g h args st v st' hv
  rw [bsel_eq] at h
  split at h
  · rename_i e; rw [Nat.beq_eq] at e; subst e
    exact (reloO_strong (snapI_strong P0_mixed callA_sound sM0_is (k 103))).out g h args st v st' hv
  rw [bsel_eq] at h
  split at h
  · rename_i e; rw [Nat.beq_eq] at e; subst e
    exact (dropO_strong (reloO_strong (snapI_strong P0_mixed callA_sound sM1_is (k 30)))).out g h args st v st' hv
  rw [bsel_eq] at h
  split at h
  · rename_i e; rw [Nat.beq_eq] at e; subst e
    exact (dropO_strong (reloO_strong (snapI_strong P0_mixed callA_sound sM3_is (k 186)))).out g h args st v st' hv
  rw [bsel_eq] at h
  split at h
  · rename_i e; rw [Nat.beq_eq] at e; subst e
    exact (dropO_strong (reloO_strong (snapI_strong P0_mixed callA_sound sM4_is (k 187)))).out g h args st v st' hv
  exact I4_sound f g h call hc args st v st' hv
theorem callB_sound : CallSound P0 callB := runX_sound P0_mixed I5_sound 100
theorem I6_sound : IntXSound P0 I6 := by
  intro f g h call hc args st v st' hv
  unfold I6 at h
  rw [bsel_eq] at h
  split at h
  · rename_i e; rw [Nat.beq_eq] at e; subst e
    exact (reloO_strong (snapI_strong P0_mixed callB_sound sT0_is (snapI_strong P0_mixed callB_sound sT1_is (snapI_strong P0_mixed callB_sound sT2_is (funXK_strong P0_mixed hc))))).out g h args st v st' hv
  rw [bsel_eq] at h
  split at h
  · rename_i e; rw [Nat.beq_eq] at e; subst e
    exact (dropO_strong (reloO_strong (snapI_strong P0_mixed callB_sound sT3_is (funXK_strong P0_mixed hc)))).out g h args st v st' hv
  exact I5_sound f g h call hc args st v st' hv
theorem callE_sound : CallSound P0 callE := runX_sound P0_mixed I6_sound 100
theorem I7_sound : IntXSound P0 I7 := by
  intro f g h call hc args st v st' hv
  unfold I7 at h
  rw [bsel_eq] at h
  split at h
  · rename_i e; rw [Nat.beq_eq] at e; subst e
    exact (reloO_strong (snapI_strong P0_mixed callE_sound sU0_is (snapI_strong P0_mixed callE_sound sU1_is (snapI_strong P0_mixed callE_sound sV0_is (snapI_strong P0_mixed callE_sound sV1_is (funXK_strong P0_mixed hc)))))).out g h args st v st' hv
  rw [bsel_eq] at h
  split at h
  · rename_i e; rw [Nat.beq_eq] at e; subst e
    exact (reloO_strong (snapI_strong P0_mixed callE_sound sU2_is (snapI_strong P0_mixed callE_sound sV2_is (funXK_strong P0_mixed hc)))).out g h args st v st' hv
  exact I6_sound f g h call hc args st v st' hv
theorem callU_sound : CallSound P0 callU := runX_sound P0_mixed I7_sound 100
theorem cut_all (i : Nat) (h : i < 60) : saysA (.bool true) [.int .i64 (.ofNat i)] P0 4 callU = true := by
  rcases Nat.lt_or_ge i 15 with a | a
  · exact rangeB_iff cut0_is i (Nat.zero_le _) a
  rcases Nat.lt_or_ge i 30 with b | b
  · exact rangeB_iff cut1_is i a b
  rcases Nat.lt_or_ge i 45 with c | c
  · exact rangeB_iff cut2_is i b c
  · exact rangeB_iff cut3_is i c h
theorem I8_sound : IntXSound P0 I8 := by
  intro f g h call hc args st v st' hv
  unfold I8 at h
  rw [bsel_eq] at h
  split at h
  · rename_i e; rw [Nat.beq_eq] at e; subst e
    cases h
    exact upG_sound P0_mixed callU_sound cut_all args st v st' hv
  exact I7_sound f g h call hc args st v st' hv
end Sim
