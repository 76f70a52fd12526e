import Derived.Test.YtomffjeofpafnaaGreatDoorSndC
namespace Lim
open Go Go.RowKit Go.Proofs
noncomputable section
set_option linter.defProp false
set_option maxRecDepth 100000
def AA:P0.follows .mixedOrders=true:=yN
def acw:Z8 P0 102:=
 ⟨102,4,109,_,Tryz.underlying102,Tryz.sizeOf109,λargs w=>run_callFunc_extern Tryz.func102 yN yN yN (e:=Extern.SlicesOverlaps.overlaps #[102,102] #[4]) yN args w⟩
def acv:Z8 P0 181:=
 ⟨103,4,3,_,Tryz.underlying103,Tryz.sizeOf3,λargs w=>run_callFunc_extern Tryz.func181 yN yN yN (e:=Extern.SlicesOverlaps.overlaps #[103,103] #[4]) yN args w⟩
def Hr:nH P0 I1:=by
 intro f args st v st' h;unfold I1 at h;simp only[aO,aDZ]at h
 split at h
 .rename_i e;subst e;exact BM acw h
 .split at h
  .rename_i e;subst e;exact BM acv h
  .cases h
def tC {f:Nat}(h1:f≠102)(h2:f≠181)(args:List CV)(s:St):I1 f args s=none:=by
 unfold I1;simp only[aO,aDZ];rw[aDv h1,aDv h2]
def aaf (args:List CV)(s:St)(x:CV)(s':St)(h:UQ args s=some (.ok x s'))(Q:CV->St->Prop)(hq:Q x s'):R1 102 args s Q:=Hp (show I1 102 args s=some (.ok x s')from h) hq
def aae (args:List CV)(s:St)(x:CV)(s':St)(h:UQ args s=some (.ok x s'))(Q:CV->St->Prop)(hq:Q x s'):R1 181 args s Q:=Hp (show I1 181 args s=some (.ok x s')from h) hq
def XX:aad 51 109 4:=λn i b vb L T s h1 h2 h3 h4 h5 h6 h7 h8 h9 Ji=>Ay (tC wI wI _ _) (by rw[Vb];exact ade pX pX pX rfl rfl h1 h2 h3 h4 h5 h6 h7 h8 h9 Ji)
def Tm:aad 144 3 1:=λn i b vb L T s h1 h2 h3 h4 h5 h6 h7 h8 h9 Ji=>Ay (tC wI wI _ _) (by rw[O7];exact ade pX pX pX rfl rfl h1 h2 h3 h4 h5 h6 h7 h8 h9 Ji)
def XW:aac 51 109 4:=λn i b vb L T s h1 h2 h3 h5 h6 h7 h8 h9 Ji=>Ay (tC wI wI _ _) (by rw[Vb];exact adb aaf pX pX h1 h2 h3 h5 h6 h7 h8 h9 Ji)
def Tl:aac 144 3 1:=λn i b vb L T s h1 h2 h3 h5 h6 h7 h8 h9 Ji=>Ay (tC wI wI _ _) (by rw[O7];exact adb aae pX pX h1 h2 h3 h5 h6 h7 h8 h9 Ji)
def Uq:Rn P0 133 512:=by
 refine⟨Tryz.f133,153,3,173,20,_,_,_,_,_,_,_,_,_,_,_,_,_,_,_,_,_,_,Tryz.func133,yN,rfl,wI,rfl,rfl,rfl,rfl,rfl,?_,⟨rfl,rfl⟩,⟨rfl,rfl⟩,⟨rfl,rfl⟩,⟨rfl,rfl⟩,⟨rfl,rfl⟩,⟨rfl,rfl⟩,⟨rfl,rfl⟩,⟨rfl,rfl⟩,⟨rfl,rfl⟩,⟨rfl,rfl⟩,⟨rfl,rfl⟩,⟨rfl,rfl⟩,⟨rfl,rfl⟩,⟨rfl,rfl⟩,Tryz.underlying153,yN,wI,yN,?_,Tryz.isAgg173⟩
 .intro o ho;simp only[aDs,aEe,aEW]at ho;rcases ho with rfl|rfl|rfl|rfl|rfl|rfl|rfl|rfl|rfl|rfl|rfl|rfl|rfl|rfl<;>rfl
 .cases h:P0.info? 173 with
  |none=>exact absurd h (by have:(P0.info? 173).isSome=true:=by kernel_rfl
                            intro e;rw[e]at this;cases this)
  |some i=>
   have hs:(P0.info? 173).map (·.size)=some 512:=yN
   have hz:(P0.info? 173).map (λi=>i.zero.map λz=>z.cells.size)=some (some 512):=yN
   rw[h]at hs hz;simp only[aED,aER]at hs hz;cases wF:i.zero with
   |none=>rw[wF]at hz;cases hz
   |some z=>
    rw[wF]at hz;simp only[aED,aER]at hz;exact⟨i,z,rfl,wF,hs,hz⟩
