import Derived.Test.YtpinmfjiiapgfaaGreatDoorSnap
namespace Sim
theorem cut1_is : rangeB 15 (fun i => saysA (.bool true) [.int .i64 (.ofNat i)] P0 4 callU) 15 = true := by decide +kernel
end Sim
