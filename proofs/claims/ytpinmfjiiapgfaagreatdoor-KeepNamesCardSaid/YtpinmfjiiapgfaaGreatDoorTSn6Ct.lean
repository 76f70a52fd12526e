import Derived.Test.YtpinmfjiiapgfaaGreatDoorSnap
namespace Sim
theorem sC0_is : sC0.isF P0 93 callX2 = true := by decide +kernel
end Sim
