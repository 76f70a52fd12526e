import Derived.Test.YtpnegnecgghdcaaGreatDoorSimCm
namespace Sim
open Go
noncomputable def I4 : IntX := fun f => bsel (Nat.beq f 5) (some (saysG (.bool true))) (I2 f)
noncomputable def callB : CallF := runX P0 I4 100
theorem btree_is : saysF (.bool true) P0 3 callB = true := by decide +kernel
end Sim
