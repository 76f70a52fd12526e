import Derived.Test.YtpinmfjiiapgfaaGreatDoorSnap
namespace Sim
theorem sM12_is : sM12.isF P0 34 callA = true := by decide +kernel
theorem sM13_is : sM13.isF P0 36 callA = true := by decide +kernel
theorem sM14_is : sM14.isF P0 36 callA = true := by decide +kernel
theorem sM15_is : sM15.isF P0 36 callA = true := by decide +kernel
theorem sM16_is : sM16.isF P0 36 callA = true := by decide +kernel
end Sim
