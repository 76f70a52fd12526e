import Derived.Test.YtpinmfjiiapgfaaGreatDoorSnap
namespace Sim
theorem sA0_is : sA0.isF P0 32 callO = true := by decide +kernel
end Sim
