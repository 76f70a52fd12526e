import Derived.Test.YtpinmfjiiapgfaaGreatDoorSnap
namespace Sim
theorem sK0_is : sK0.isF P0 6 callA = true := by decide +kernel
theorem sM0_is : sM0.isF P0 103 callA = true := by decide +kernel
theorem sM1_is : sM1.isF P0 30 callA = true := by decide +kernel
theorem sM2_is : sM2.isF P0 51 callA = true := by decide +kernel
theorem sM3_is : sM3.isF P0 186 callA = true := by decide +kernel
theorem sM4_is : sM4.isF P0 187 callA = true := by decide +kernel
theorem sM5_is : sM5.isF P0 34 callA = true := by decide +kernel
end Sim
