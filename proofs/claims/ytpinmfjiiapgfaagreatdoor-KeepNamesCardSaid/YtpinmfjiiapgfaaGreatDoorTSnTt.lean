import Derived.Test.YtpinmfjiiapgfaaGreatDoorSnap
namespace Sim
theorem sT0_is : sT0.isF P0 179 callB = true := by decide +kernel
theorem sT1_is : sT1.isF P0 179 callB = true := by decide +kernel
theorem sT2_is : sT2.isF P0 179 callB = true := by decide +kernel
theorem sT3_is : sT3.isF P0 21 callB = true := by decide +kernel
end Sim
