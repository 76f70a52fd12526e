import Derived.Test.YtpinmfjiiapgfaaGreatDoorSimE
import Derived.Test.YtpinmfjiiapgfaaGreatDoorProg
namespace Sim
open Go
noncomputable def P0 : Program := Go.Proofs.Tryz.prog
noncomputable def insI (f : Nat) : Option FunX := Option.rec none (fun F => some (insG F)) (funXK P0 f)
noncomputable def flatI (f : Nat) : Option FunX := Option.rec none (fun F => some (flatG F)) (funXK P0 f)
noncomputable def reloI (f : Nat) : Option FunX := Option.rec none (fun F => some (reloG F)) (funXK P0 f)
noncomputable def I2 : IntX := fun f => bsel (Nat.beq f 172) (insI 172) (bsel (Nat.beq f 278) (insI 278) (bsel (Nat.beq f 242) (some ovG) (bsel (Nat.beq f 310) (some ovG) (bsel (Nat.beq f 176) (some (sortG 246 3)) (bsel (Nat.beq f 182) (some (copyG 512)) (bsel (Nat.beq f 224) (flatI 224)
  (bsel (Nat.beq f 270) (reloI 270) (bsel (Nat.beq f 32) (reloI 32) (bsel (Nat.beq f 93) (reloI 93) none)))))))))
noncomputable def callX : CallF := runX P0 I2 100
noncomputable def S0 : St := ⟨PT.nil, Bp.e⟩
noncomputable def FX (f : Nat) : FunX := Option.rec (fun _ _ _ => .bad) (fun F => F) (funXK P0 f)
end Sim
