import Derived.Test.YtpinmfjiiapgfaaGreatDoorSnap
namespace Sim
noncomputable def callK : CallF := runX P0 I8 100
theorem keep_is : saysF (.bool true) P0 3 callK = true := by decide +kernel
end Sim
