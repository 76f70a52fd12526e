import Derived.Test.YtomffjeofpafnaaGreatDoorSndC
namespace Lim
open Go Go.RowKit Go.Proofs
noncomputable section
set_option maxRecDepth 100000
theorem zD:P0.follows .mixedOrders=true:=by kernel_rfl
theorem aad:Yh P0 102:=
 ⟨102,4,109,_,Tryz.underlying102,Tryz.sizeOf109,fun args w=>run_callFunc_extern Tryz.func102 (by kernel_rfl) (by kernel_rfl) (by kernel_rfl) (e:=Extern.SlicesOverlaps.overlaps #[102,102] #[4]) (by kernel_rfl) args w⟩
theorem aac:Yh P0 181:=
 ⟨103,4,3,_,Tryz.underlying103,Tryz.sizeOf3,fun args w=>run_callFunc_extern Tryz.func181 (by kernel_rfl) (by kernel_rfl) (by kernel_rfl) (e:=Extern.SlicesOverlaps.overlaps #[103,103] #[4]) (by kernel_rfl) args w⟩
theorem Ga:nf P0 I1:=by
 intro f args st v st' h;unfold I1 at h;simp only[aO,aBi]at h
 split at h
 ·rename_i e;subst e;exact AZ aad h
 ·split at h
  ·rename_i e;subst e;exact AZ aac h
  ·cases h
theorem sO {f:Nat}(h1:f≠102)(h2:f≠181)(args:List CV)(s:St):I1 f args s=none:=by
 unfold I1;simp only[aO,aBi];rw[aAH h1,aAH h2]
theorem Yp (args:List CV)(s:St)(x:CV)(s':St)(h:SR args s=some (.ok x s'))(Q:CV->St->Prop)(hq:Q x s'):R1 102 args s Q:=F7 (show I1 102 args s=some (.ok x s')from h) hq
theorem Yo (args:List CV)(s:St)(x:CV)(s':St)(h:SR args s=some (.ok x s'))(Q:CV->St->Prop)(hq:Q x s'):R1 181 args s Q:=F7 (show I1 181 args s=some (.ok x s')from h) hq
theorem VY:Yn 51 109 4:=fun n i b vb L T s h1 h2 h3 h4 h5 h6 h7 h8 h9 HT=>zA (sO (by decide) (by decide) _ _) (by rw[Ti];exact aaJ (by omega) (by omega) (by omega) rfl rfl h1 h2 h3 h4 h5 h6 h7 h8 h9 HT)
theorem Rj:Yn 144 3 1:=fun n i b vb L T s h1 h2 h3 h4 h5 h6 h7 h8 h9 HT=>zA (sO (by decide) (by decide) _ _) (by rw[Nj];exact aaJ (by omega) (by omega) (by omega) rfl rfl h1 h2 h3 h4 h5 h6 h7 h8 h9 HT)
theorem VX:Ym 51 109 4:=fun n i b vb L T s h1 h2 h3 h5 h6 h7 h8 h9 HT=>zA (sO (by decide) (by decide) _ _) (by rw[Ti];exact aaI Yp (by omega) (by omega) h1 h2 h3 h5 h6 h7 h8 h9 HT)
theorem Ri:Ym 144 3 1:=fun n i b vb L T s h1 h2 h3 h5 h6 h7 h8 h9 HT=>zA (sO (by decide) (by decide) _ _) (by rw[Nj];exact aaI Yo (by omega) (by omega) h1 h2 h3 h5 h6 h7 h8 h9 HT)
theorem Sn:Pk P0 133 512:=by
 refine⟨Tryz.f133,153,3,173,20,_,_,_,_,_,_,_,_,_,_,_,_,_,_,_,_,_,_,Tryz.func133,by kernel_rfl,rfl,by decide,rfl,rfl,rfl,rfl,rfl, ?_,⟨rfl,rfl⟩,⟨rfl,rfl⟩,⟨rfl,rfl⟩,⟨rfl,rfl⟩,⟨rfl,rfl⟩,⟨rfl,rfl⟩,⟨rfl,rfl⟩,⟨rfl,rfl⟩,⟨rfl,rfl⟩,⟨rfl,rfl⟩,⟨rfl,rfl⟩,⟨rfl,rfl⟩,⟨rfl,rfl⟩,⟨rfl,rfl⟩,Tryz.underlying153,by kernel_rfl,by decide,by kernel_rfl, ?_,Tryz.isAgg173⟩
 ·intro o ho;simp only[aAD,aBo,aCg]at ho;rcases ho with rfl|rfl|rfl|rfl|rfl|rfl|rfl|rfl|rfl|rfl|rfl|rfl|rfl|rfl<;>rfl
 ·cases h:P0.info? 173 with
  |none=>exact absurd h (by have:(P0.info? 173).isSome=true:=by kernel_rfl
                            intro e;rw[e]at this;cases this)
  |some i=>
   have hs:(P0.info? 173).map (·.size)=some 512:=by kernel_rfl
   have hz:(P0.info? 173).map (fun i=>i.zero.map fun z=>z.cells.size)=some (some 512):=by kernel_rfl
   rw[h]at hs hz;simp only[aBL,aCa]at hs hz;cases vJ:i.zero with
   |none=>rw[vJ]at hz;cases hz
   |some z=>
    rw[vJ]at hz;simp only[aBL,aCa]at hz;exact⟨i,z,rfl,vJ,hs,hz⟩
