import Derived.Test.YtpnegnecgghdcaaGreatDoorSimI5
import Derived.Test.YtpnegnecgghdcaaGreatDoorSimI6
import Derived.Test.YtpnegnecgghdcaaGreatDoorProg
namespace Sim
open Go
noncomputable def P0 : Program := Go.Proofs.Tryz.prog
noncomputable def insI (f : Nat) : Option FunX := Option.rec none (fun F => some (insG F)) (funXK P0 f)
noncomputable def flatI (f : Nat) : Option FunX := Option.rec none (fun F => some (flatG F)) (funXK P0 f)
noncomputable def I2 : IntX := fun f => bsel (Nat.beq f 38) (insI 38) (bsel (Nat.beq f 116) (insI 116) (bsel (Nat.beq f 84) (some ovG) (bsel (Nat.beq f 154) (some ovG) (bsel (Nat.beq f 88) (some (sortG 129 3)) (bsel (Nat.beq f 95) (some (copyG 512)) (bsel (Nat.beq f 141) (flatI 141) none))))))
noncomputable def callX : CallF := runX P0 I2 100
noncomputable def S0 : St := ⟨PT.nil, Bp.e⟩
noncomputable def F54 : FunX := Option.rec (fun _ _ _ => .bad) (fun F => F) (funXK P0 54)
end Sim
