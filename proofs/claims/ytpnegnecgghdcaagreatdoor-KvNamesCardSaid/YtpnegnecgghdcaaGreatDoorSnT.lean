import Derived.Test.YtpnegnecgghdcaaGreatDoorSnAll
namespace Sim
theorem sA_is : sA.isF P0 54 callX = true := by decide +kernel
theorem sE_is : sE.isF P0 54 callX = true := by decide +kernel
theorem sF_is : sF.isF P0 54 callX = true := by decide +kernel
theorem sG_is : sG.isF P0 54 callX = true := by decide +kernel
theorem sH_is : sH.isF P0 21 callX = true := by decide +kernel
end Sim
