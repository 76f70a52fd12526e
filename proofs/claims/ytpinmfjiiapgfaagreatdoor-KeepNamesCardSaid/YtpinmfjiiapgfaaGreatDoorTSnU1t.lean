import Derived.Test.YtpinmfjiiapgfaaGreatDoorSnap
namespace Sim
theorem sU1_is : sU1.isF P0 93 callE = true := by decide +kernel
end Sim
