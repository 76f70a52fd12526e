import Derived.Test.YtomffjeofpafnaaGreatDoorSndC
namespace Lim
open Go Go.RowKit Go.Proofs
noncomputable section
set_option linter.defProp false
set_option maxRecDepth 100000
def Bh:P0.follows .mixedOrders=true:=vN
def adT:aby P0 102:=
 ⟨102,4,109,_,Tryz.underlying102,Tryz.sizeOf109,λargs w=>run_callFunc_extern Tryz.func102 vN vN vN (e:=Extern.SlicesOverlaps.overlaps #[102,102] #[4]) vN args w⟩
def adS:aby P0 181:=
 ⟨103,4,3,_,Tryz.underlying103,Tryz.sizeOf3,λargs w=>run_callFunc_extern Tryz.func181 vN vN vN (e:=Extern.SlicesOverlaps.overlaps #[103,103] #[4]) vN args w⟩
def Ig:nN P0 I1:=by
 intro f args st v st' h;unfold I1 at h;simp only[aP,aFw]at h
 split at h
 .rename_i e;subst e;exact CC adT h
 .split at h
  .rename_i e;subst e;exact CC adS h
  .cases h
def ud {f:Nat}(h1:f≠102)(h2:f≠181)(args:List CV)(s:St):I1 f args s=none:=by
 unfold I1;simp only[aP,aFw];rw[aET h1,aET h2]
def abE (args:List CV)(s:St)(x:CV)(s':St)(h:Wy args s=some (.ok x s'))(Q:CV->St->Prop)(hq:Q x s'):R1 102 args s Q:=Ib (show I1 102 args s=some (.ok x s')from h) hq
def abD (args:List CV)(s:St)(x:CV)(s':St)(h:Wy args s=some (.ok x s'))(Q:CV->St->Prop)(hq:Q x s'):R1 181 args s Q:=Ib (show I1 181 args s=some (.ok x s')from h) hq
def Zk:abC 51 109 4:=λn i b vb L T s h1 h2 h3 h4 h5 h6 h7 h8 h9 Kd=>Bf (ud u7 u7 _ _) (by rw[WX];exact aeA qE qE qE rfl rfl h1 h2 h3 h4 h5 h6 h7 h8 h9 Kd)
def U4:abC 144 3 1:=λn i b vb L T s h1 h2 h3 h4 h5 h6 h7 h8 h9 Kd=>Bf (ud u7 u7 _ _) (by rw[QJ];exact aeA qE qE qE rfl rfl h1 h2 h3 h4 h5 h6 h7 h8 h9 Kd)
def Zj:abB 51 109 4:=λn i b vb L T s h1 h2 h3 h5 h6 h7 h8 h9 Kd=>Bf (ud u7 u7 _ _) (by rw[WX];exact aez abE qE qE h1 h2 h3 h5 h6 h7 h8 h9 Kd)
def U3:abB 144 3 1:=λn i b vb L T s h1 h2 h3 h5 h6 h7 h8 h9 Kd=>Bf (ud u7 u7 _ _) (by rw[QJ];exact aez abD qE qE h1 h2 h3 h5 h6 h7 h8 h9 Kd)
def VU:Tb P0 133 512:=by
 refine⟨Tryz.f133,153,3,173,20,_,_,_,_,_,_,_,_,_,_,_,_,_,_,_,_,_,_,Tryz.func133,vN,rfl,u7,rfl,rfl,rfl,rfl,rfl,?_,⟨rfl,rfl⟩,⟨rfl,rfl⟩,⟨rfl,rfl⟩,⟨rfl,rfl⟩,⟨rfl,rfl⟩,⟨rfl,rfl⟩,⟨rfl,rfl⟩,⟨rfl,rfl⟩,⟨rfl,rfl⟩,⟨rfl,rfl⟩,⟨rfl,rfl⟩,⟨rfl,rfl⟩,⟨rfl,rfl⟩,⟨rfl,rfl⟩,Tryz.underlying153,vN,u7,vN,?_,Tryz.isAgg173⟩
 .intro o ho;simp only[aEP,aFy,aGt]at ho;rcases ho with rfl|rfl|rfl|rfl|rfl|rfl|rfl|rfl|rfl|rfl|rfl|rfl|rfl|rfl<;>rfl
 .cases h:P0.info? 173 with
  |none=>exact absurd h (by have:(P0.info? 173).isSome=true:=by kernel_rfl
                            intro e;rw[e]at this;cases this)
  |some i=>
   have hs:(P0.info? 173).map (·.size)=some 512:=vN
   have hz:(P0.info? 173).map (λi=>i.zero.map λz=>z.cells.size)=some (some 512):=vN
   rw[h]at hs hz;simp only[aGc,aGp]at hs hz;cases xp:i.zero with
   |none=>rw[xp]at hz;cases hz
   |some z=>
    rw[xp]at hz;simp only[aGc,aGp]at hz;exact⟨i,z,rfl,xp,hs,hz⟩
