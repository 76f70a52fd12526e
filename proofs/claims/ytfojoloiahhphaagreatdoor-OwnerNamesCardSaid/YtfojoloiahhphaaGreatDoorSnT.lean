import Derived.Test.YtfojoloiahhphaaGreatDoorSn
namespace Sim
theorem sA0_is : sA0.isF P0 71 callO = true := by decide +kernel
end Sim

namespace Sim
theorem sC0_is : sC0.isF P0 125 callX = true := by decide +kernel
end Sim

namespace Sim
open Go
theorem sW2_is : sW2.isF P0 11 callW = true := by decide +kernel
end Sim
