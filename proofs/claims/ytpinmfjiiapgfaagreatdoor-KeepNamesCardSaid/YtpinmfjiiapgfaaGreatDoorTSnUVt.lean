import Derived.Test.YtpinmfjiiapgfaaGreatDoorSnap
namespace Sim
theorem sU2_is : sU2.isF P0 7 callE = true := by decide +kernel
theorem sV2_is : sV2.isF P0 7 callE = true := by decide +kernel
end Sim
