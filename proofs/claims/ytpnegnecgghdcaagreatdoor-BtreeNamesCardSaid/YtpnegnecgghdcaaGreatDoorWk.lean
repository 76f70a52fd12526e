import Derived.Test.YtpnegnecgghdcaaGreatDoorSnAll
namespace Sim
open Go
noncomputable def I3 : IntX := fun f => bsel (Nat.beq f 54) (snapI sA (snapI sB (snapI sC (funXK P0 54)))) (I2 f)
noncomputable def callW : CallF := runX P0 I3 100
theorem works_is : saysF (.bool true) P0 5 callW = true := by decide +kernel
end Sim
