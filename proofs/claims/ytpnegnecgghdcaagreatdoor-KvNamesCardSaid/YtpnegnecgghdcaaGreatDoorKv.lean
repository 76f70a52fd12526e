import Derived.Test.YtpnegnecgghdcaaGreatDoorSnAll
namespace Sim
open Go
noncomputable def I6 : IntX := fun f => bsel (Nat.beq f 21) (snapI sH (funXK P0 21)) (bsel (Nat.beq f 54) (snapI sG (funXK P0 54)) (bsel (Nat.beq f 24) (some (saysG (.bool true))) (I2 f)))
noncomputable def callK : CallF := runX P0 I6 100
theorem kv_is : saysF (.bool true) P0 4 callK = true := by decide +kernel
end Sim
