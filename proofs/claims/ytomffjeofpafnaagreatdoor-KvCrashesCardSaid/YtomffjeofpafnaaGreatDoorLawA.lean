import Derived.Test.YtomffjeofpafnaaGreatDoorPagG
namespace Lim
open Go
noncomputable section
set_option linter.defProp false
set_option maxRecDepth 100000
section
variable {st st':St}
def Ev (L:List aW):∀x∈L.map gh,x.length=2:=by
 intro x a;obtain⟨c,_,rfl⟩:=aIk.1 a;rfl
end
section
variable {st st':St}
end
section
variable {st st':St}
end
section
variable {st st':St}
def FC (fr to:bY)(p:aW):Br fr to p=(decide (lj fr p.1)&&(decide (to=[])||decide (dO p.1 to))):=by
 unfold Br lj
 by_cases h:dO p.1 fr<;>simp[h]
end
section
variable {st st':St}
end
