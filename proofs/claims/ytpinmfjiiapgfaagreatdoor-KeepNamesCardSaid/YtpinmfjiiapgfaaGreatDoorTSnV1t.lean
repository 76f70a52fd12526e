import Derived.Test.YtpinmfjiiapgfaaGreatDoorSnap
namespace Sim
theorem sV1_is : sV1.isF P0 93 callE = true := by decide +kernel
end Sim
