import Derived.Test.YtomffjeofpafnaaGreatDoorPagG
namespace Lim
open Go
noncomputable section
set_option linter.defProp false
set_option maxRecDepth 100000
section
variable {st st':St}
def KP (L:List bq):∀x∈L.map fS,x.length=2:=by
 intro x hx;obtain⟨c,_,rfl⟩:=aFq.1 hx;rfl
end
section
variable {st st':St}
end
section
variable {st st':St}
end
section
variable {st st':St}
def Ko (fr to:cn)(p:bq):A8 fr to p=(decide (lp fr p.1)&&(decide (to=[])||decide (eQ p.1 to))):=by
 unfold A8 lp
 by_cases h:eQ p.1 fr<;>simp[h]
end
section
variable {st st':St}
end
