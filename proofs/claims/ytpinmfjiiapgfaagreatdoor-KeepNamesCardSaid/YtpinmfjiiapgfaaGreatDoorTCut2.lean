import Derived.Test.YtpinmfjiiapgfaaGreatDoorSnap
namespace Sim
theorem cut2_is : rangeB 30 (fun i => saysA (.bool true) [.int .i64 (.ofNat i)] P0 4 callU) 15 = true := by decide +kernel
end Sim
