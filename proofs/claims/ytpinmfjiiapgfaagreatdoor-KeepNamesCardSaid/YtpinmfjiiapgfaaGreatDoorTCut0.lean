import Derived.Test.YtpinmfjiiapgfaaGreatDoorSnap
namespace Sim
theorem cut0_is : rangeB 0 (fun i => saysA (.bool true) [.int .i64 (.ofNat i)] P0 4 callU) 15 = true := by decide +kernel
end Sim
