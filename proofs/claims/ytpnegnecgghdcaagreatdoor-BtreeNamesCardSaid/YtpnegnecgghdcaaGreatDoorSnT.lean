import Derived.Test.YtpnegnecgghdcaaGreatDoorSnAll
namespace Sim
theorem sA_is : sA.isF P0 54 callX = true := by decide +kernel
theorem sB_is : sB.isF P0 54 callX = true := by decide +kernel
theorem sC_is : sC.isF P0 54 callX = true := by decide +kernel
end Sim
