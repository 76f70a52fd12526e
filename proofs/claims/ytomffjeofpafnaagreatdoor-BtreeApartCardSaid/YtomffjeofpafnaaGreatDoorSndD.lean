import Derived.Test.YtomffjeofpafnaaGreatDoorSndC
namespace Lim
open Go Go.RowKit Go.Proofs
noncomputable section
set_option maxRecDepth 100000
theorem zY:P0.follows .mixedOrders=true:=by kernel_rfl
theorem aaF:YO P0 102:=
 ⟨102,4,109,_,Tryz.underlying102,Tryz.sizeOf109,fun args w=>run_callFunc_extern Tryz.func102 (by kernel_rfl) (by kernel_rfl) (by kernel_rfl) (e:=Extern.SlicesOverlaps.overlaps #[102,102] #[4]) (by kernel_rfl) args w⟩
theorem aaE:YO P0 181:=
 ⟨103,4,3,_,Tryz.underlying103,Tryz.sizeOf3,fun args w=>run_callFunc_extern Tryz.func181 (by kernel_rfl) (by kernel_rfl) (by kernel_rfl) (e:=Extern.SlicesOverlaps.overlaps #[103,103] #[4]) (by kernel_rfl) args w⟩
theorem Gz:mZ P0 I1:=by
 intro f args st v st' h;unfold I1 at h;simp only[aM,aBB]at h
 split at h
 ·rename_i e;subst e;exact Bp aaF h
 ·split at h
  ·rename_i e;subst e;exact Bp aaE h
  ·cases h
theorem sV {f:Nat}(h1:f≠102)(h2:f≠181)(args:List CV)(s:St):I1 f args s=none:=by
 unfold I1;simp only[aM,aBB];rw[aAZ h1,aAZ h2]
theorem YV (args:List CV)(s:St)(x:CV)(s':St)(h:T0 args s=some (.ok x s'))(Q:CV->St->Prop)(hq:Q x s'):R1 102 args s Q:=Gx (show I1 102 args s=some (.ok x s')from h) hq
theorem YU (args:List CV)(s:St)(x:CV)(s':St)(h:T0 args s=some (.ok x s'))(Q:CV->St->Prop)(hq:Q x s'):R1 181 args s Q:=Gx (show I1 181 args s=some (.ok x s')from h) hq
theorem Wx:YT 51 109 4:=fun n i b vb L T s h1 h2 h3 h4 h5 h6 h7 h8 h9 FO=>zW (sV (by decide) (by decide) _ _) (by rw[Uo];exact abo (by omega) (by omega) (by omega) rfl rfl h1 h2 h3 h4 h5 h6 h7 h8 h9 FO)
theorem Sj:YT 144 3 1:=fun n i b vb L T s h1 h2 h3 h4 h5 h6 h7 h8 h9 FO=>zW (sV (by decide) (by decide) _ _) (by rw[Ou];exact abo (by omega) (by omega) (by omega) rfl rfl h1 h2 h3 h4 h5 h6 h7 h8 h9 FO)
theorem Ww:YS 51 109 4:=fun n i b vb L T s h1 h2 h3 h5 h6 h7 h8 h9 FO=>zW (sV (by decide) (by decide) _ _) (by rw[Uo];exact abn YV (by omega) (by omega) h1 h2 h3 h5 h6 h7 h8 h9 FO)
theorem Si:YS 144 3 1:=fun n i b vb L T s h1 h2 h3 h5 h6 h7 h8 h9 FO=>zW (sV (by decide) (by decide) _ _) (by rw[Ou];exact abn YU (by omega) (by omega) h1 h2 h3 h5 h6 h7 h8 h9 FO)
theorem Tt:Qt P0 133 512:=by
 refine⟨Tryz.f133,153,3,173,20,_,_,_,_,_,_,_,_,_,_,_,_,_,_,_,_,_,_,Tryz.func133,by kernel_rfl,rfl,by decide,rfl,rfl,rfl,rfl,rfl, ?_,⟨rfl,rfl⟩,⟨rfl,rfl⟩,⟨rfl,rfl⟩,⟨rfl,rfl⟩,⟨rfl,rfl⟩,⟨rfl,rfl⟩,⟨rfl,rfl⟩,⟨rfl,rfl⟩,⟨rfl,rfl⟩,⟨rfl,rfl⟩,⟨rfl,rfl⟩,⟨rfl,rfl⟩,⟨rfl,rfl⟩,⟨rfl,rfl⟩,Tryz.underlying153,by kernel_rfl,by decide,by kernel_rfl, ?_,Tryz.isAgg173⟩
 ·intro o ho;simp only[aAX,aBF,aCA]at ho;rcases ho with rfl|rfl|rfl|rfl|rfl|rfl|rfl|rfl|rfl|rfl|rfl|rfl|rfl|rfl<;>rfl
 ·cases h:P0.info? 173 with
  |none=>exact absurd h (by have:(P0.info? 173).isSome=true:=by kernel_rfl
                            intro e;rw[e]at this;cases this)
  |some i=>
   have hs:(P0.info? 173).map (·.size)=some 512:=by kernel_rfl
   have hz:(P0.info? 173).map (fun i=>i.zero.map fun z=>z.cells.size)=some (some 512):=by kernel_rfl
   rw[h]at hs hz;simp only[aCf,aCs]at hs hz;cases vT:i.zero with
   |none=>rw[vT]at hz;cases hz
   |some z=>
    rw[vT]at hz;simp only[aCf,aCs]at hz;exact⟨i,z,rfl,vT,hs,hz⟩
