import Derived.Test.YtpinmfjiiapgfaaGreatDoorSnap
namespace Sim
theorem sM6_is : sM6.isF P0 36 callA = true := by decide +kernel
theorem sM7_is : sM7.isF P0 36 callA = true := by decide +kernel
theorem sM8_is : sM8.isF P0 36 callA = true := by decide +kernel
theorem sM9_is : sM9.isF P0 36 callA = true := by decide +kernel
theorem sM10_is : sM10.isF P0 36 callA = true := by decide +kernel
theorem sM11_is : sM11.isF P0 36 callA = true := by decide +kernel
end Sim
