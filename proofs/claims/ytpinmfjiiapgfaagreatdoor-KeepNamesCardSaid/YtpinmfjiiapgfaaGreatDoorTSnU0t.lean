import Derived.Test.YtpinmfjiiapgfaaGreatDoorSnap
namespace Sim
theorem sU0_is : sU0.isF P0 93 callE = true := by decide +kernel
end Sim
