import Derived.Test.YtpnegnecgghdcaaGreatDoorSnAll
namespace Sim
open Go
noncomputable def I5 : IntX := fun f => bsel (Nat.beq f 54) (snapI sA (snapI sE (snapI sF (funXK P0 54)))) (I2 f)
noncomputable def callA : CallF := runX P0 I5 100
theorem awake_is : saysF (.bool true) P0 24 callA = true := by decide +kernel
end Sim
