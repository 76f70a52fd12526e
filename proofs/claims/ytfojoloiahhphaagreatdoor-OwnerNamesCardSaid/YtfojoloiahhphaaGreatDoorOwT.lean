import Derived.Test.YtfojoloiahhphaaGreatDoorSn
namespace Sim
open Go
theorem awake24_is : saysE (.bool true) P0 26 callU = true := by decide +kernel
theorem owner_is : saysF (.bool true) P0 4 callV = true := by decide +kernel
end Sim
