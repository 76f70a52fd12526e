import Derived.Test.YtfojoloiahhphaaGreatDoorSn
namespace Sim
theorem sA0_is : sA0.isF P0 71 callO = true := by decide +kernel
end Sim

namespace Sim
theorem sC0_is : sC0.isF P0 125 callX = true := by decide +kernel
end Sim

namespace Sim
theorem sB1_is : sB1.isF P0 11 callA = true := by decide +kernel
theorem sB4_is : sB4.isF P0 8 callA = true := by decide +kernel
theorem sB5_is : sB5.isF P0 8 callA = true := by decide +kernel
theorem sB6_is : sB6.isF P0 8 callA = true := by decide +kernel
end Sim

namespace Sim
open Go
theorem awake_is : saysF (.bool true) P0 17 callB = true := by decide +kernel
end Sim

namespace Sim
open Go
theorem shard_is : saysF (.bool true) P0 3 callM = true := by decide +kernel
end Sim
