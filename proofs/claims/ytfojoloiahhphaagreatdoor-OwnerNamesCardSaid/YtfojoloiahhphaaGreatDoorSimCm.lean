import Derived.Test.YtfojoloiahhphaaGreatDoorSimI5
import Derived.Test.YtfojoloiahhphaaGreatDoorSimI6
import Derived.Test.YtfojoloiahhphaaGreatDoorSimR
import Derived.Test.YtfojoloiahhphaaGreatDoorTold
import Derived.Test.YtfojoloiahhphaaGreatDoorSimI7
import Derived.Test.YtfojoloiahhphaaGreatDoorProg
namespace Sim
open Go
noncomputable def P0 : Program := Go.Proofs.Tryz.prog
noncomputable def insI (f : Nat) : Option FunX := Option.rec none (fun F => some (insG F)) (funXK P0 f)
noncomputable def flatI (f : Nat) : Option FunX := Option.rec none (fun F => some (flatG F)) (funXK P0 f)
noncomputable def reloI (f : Nat) : Option FunX := Option.rec none (fun F => some (reloG F)) (funXK P0 f)
noncomputable def toldI : Option FunX := Option.rec none (fun F => some (toldG F)) (funXK P0 29)
noncomputable def I2 : IntX := fun f => bsel (Nat.beq f 148) (insI 148) (bsel (Nat.beq f 243) (insI 243) (bsel (Nat.beq f 168) (insI 168) (bsel (Nat.beq f 211) (some ovG) (bsel (Nat.beq f 274) (some ovG) (bsel (Nat.beq f 228) (some ovG) (bsel (Nat.beq f 153) (some (sortG 216 3)) (bsel (Nat.beq f 161) (some (copyG 512)) (bsel (Nat.beq f 236) (flatI 236)
  (bsel (Nat.beq f 239) (reloI 239) (bsel (Nat.beq f 71) (reloI 71) (bsel (Nat.beq f 125) (reloI 125) (bsel (Nat.beq f 29) toldI none))))))))))))
noncomputable def callX : CallF := runX P0 I2 100
noncomputable def S0 : St := ⟨PT.nil, Bp.e⟩
noncomputable def FX (f : Nat) : FunX := Option.rec (fun _ _ _ => .bad) (fun F => F) (funXK P0 f)
end Sim
