import Derived.Test.YtpinmfjiiapgfaaGreatDoorSnap
namespace Sim
theorem sV0_is : sV0.isF P0 93 callE = true := by decide +kernel
end Sim
