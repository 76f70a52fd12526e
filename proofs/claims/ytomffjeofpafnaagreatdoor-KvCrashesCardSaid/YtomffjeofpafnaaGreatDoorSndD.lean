import Derived.Test.YtomffjeofpafnaaGreatDoorSndC
namespace Lim
open Go Go.RowKit Go.Proofs
noncomputable section
set_option linter.defProp false
set_option maxRecDepth 100000
def BA:P0.follows .mixedOrders=true:=zR
def aeN:abS P0 102:=
 ⟨102,4,109,_,Tryz.underlying102,Tryz.sizeOf109,λargs w=>run_callFunc_extern Tryz.func102 zR zR zR (e:=Extern.SlicesOverlaps.overlaps #[102,102] #[4]) zR args w⟩
def aeM:abS P0 181:=
 ⟨103,4,3,_,Tryz.underlying103,Tryz.sizeOf3,λargs w=>run_callFunc_extern Tryz.func181 zR zR zR (e:=Extern.SlicesOverlaps.overlaps #[103,103] #[4]) zR args w⟩
def IW:qX P0 I1:=by
 intro f args st v st' h;unfold I1 at h;simp only[aO,aIs]at h
 split at h
 .rename_i e;subst e;exact Dc aeN h
 .split at h
  .rename_i e;subst e;exact Dc aeM h
  .cases h
def ur {f:Nat}(b:f≠102)(a:f≠181)(args:List CV)(s:St):I1 f args s=none:=by
 unfold I1;simp only[aO,aIs];rw[aHM b,aHM a]
def aca (args:List CV)(s:St)(x:CV)(s':St)(h:WG args s=some (.ok x s'))(Q:CV->St->Prop)(a:Q x s'):R1 102 args s Q:=IT (show I1 102 args s=some (.ok x s')from h) a
def abZ (args:List CV)(s:St)(x:CV)(s':St)(h:WG args s=some (.ok x s'))(Q:CV->St->Prop)(a:Q x s'):R1 181 args s Q:=IT (show I1 181 args s=some (.ok x s')from h) a
def Zo:abY 51 109 4:=λn i b vb L T s l k j g f e d c a m=>By (ur xI xI _ _) (by rw[Xf];exact aft uM uM uM rfl rfl l k j g f e d c a m)
def Va:abY 144 3 1:=λn i b vb L T s l k j g f e d c a m=>By (ur xI xI _ _) (by rw[QL];exact aft uM uM uM rfl rfl l k j g f e d c a m)
def Zn:abX 51 109 4:=λn i b vb L T s k j g f e d c a l=>By (ur xI xI _ _) (by rw[Xf];exact afs aca uM uM k j g f e d c a l)
def U0:abX 144 3 1:=λn i b vb L T s k j g f e d c a l=>By (ur xI xI _ _) (by rw[QL];exact afs abZ uM uM k j g f e d c a l)
def Wa:SZ P0 133 512:=by
 refine⟨Tryz.f133,153,3,173,20,_,_,_,_,_,_,_,_,_,_,_,_,_,_,_,_,_,_,Tryz.func133,zR,rfl,xI,rfl,rfl,rfl,rfl,rfl,?_,⟨rfl,rfl⟩,⟨rfl,rfl⟩,⟨rfl,rfl⟩,⟨rfl,rfl⟩,⟨rfl,rfl⟩,⟨rfl,rfl⟩,⟨rfl,rfl⟩,⟨rfl,rfl⟩,⟨rfl,rfl⟩,⟨rfl,rfl⟩,⟨rfl,rfl⟩,⟨rfl,rfl⟩,⟨rfl,rfl⟩,⟨rfl,rfl⟩,Tryz.underlying153,zR,xI,zR,?_,Tryz.isAgg173⟩
 .intro o ho;simp only[aHJ,aIo,aJj]at ho;rcases ho with rfl|rfl|rfl|rfl|rfl|rfl|rfl|rfl|rfl|rfl|rfl|rfl|rfl|rfl<;>rfl
 .cases h:P0.info? 173 with
  |none=>exact absurd h (by have:(P0.info? 173).isSome=true:=by kernel_rfl
                            intro e;rw[e]at this;cases this)
  |some i=>
   have c:(P0.info? 173).map (·.size)=some 512:=zR
   have a:(P0.info? 173).map (λi=>i.zero.map λz=>z.cells.size)=some (some 512):=zR
   rw[h]at c a;simp only[aIZ,aJo]at c a;cases b:i.zero with
   |none=>rw[b]at a;cases a
   |some z=>
    rw[b]at a;simp only[aIZ,aJo]at a;exact⟨i,z,rfl,b,c,a⟩
