import Derived.Test.YtckodcbgpffimaaGreatDoorRowA
import Derived.Test.YtckodcbgpffimaaGreatDoorRowJ
import Derived.Test.YtckodcbgpffimaaGreatDoorTie
import Derived.Test.YtckodcbgpffimaaGreatDoorCards
import Derived.Lay
import Derived.LaidOnce
import Derived.LaidHandle
import Derived.SevenTiedAt
import Derived.Carry
namespace Go.Proofs.YtckodcbgpffimaaGreatDoor.shardSwept
open Go Go.Proofs Go.RowKit Go.ChangeShapes Go.WideShapes Go.ChangeAt
open Go.ChangeMaps (open_string shut_string)
set_option linter.unusedVariables false
theorem own:ownKnob Tryz.prog.godebug=none:=by kernel_rfl
theorem laidOut:laidOutB Tryz.prog=true:=by kernel_rfl
noncomputable def dataL:List (String×DataW Unit):=[("unicode/utf8.acceptRanges",Rows.laid_unicode_utf8_acceptRanges),("unicode/utf8.first",Rows.laid_unicode_utf8_first)]
noncomputable def handleW (os:Os):World:=
 let w0:=World.holding Tryz.prog os ⟨#[], #[],[]⟩
 {w0 with heap:=w0.heap.modify 0 fun
  | .cells _ t frozen=> .cells #[.iface 313 (.agg #[.pointer (some ⟨3,142,none⟩)])] t frozen
  |o=>o}
noncomputable def laidWorld (os:Os):World:=(handleW os).layVars Tryz.prog dataL
theorem laidMet_from {P:Program}{w0:World}{laid:List (String×DataW Unit)}(hf:w0.layFits P laid []=true)(hi:w0.layIfaces P laid (w0.layVars P laid)=true):laidMet P laid (w0.layVars P laid):=by
 have e1:(laid.filter fun x=>(laid.map (·.1)).contains x.1)=laid:=List.filter_eq_self.2 fun x hx=>List.contains_iff_mem.2 (List.mem_map.2 ⟨x,hx,rfl⟩);have e2:(laid.filter fun x=> !(laid.map (·.1)).contains x.1)=[]:=List.filter_eq_nil_iff.2 fun x hx=>by rw[List.contains_iff_mem.2 (List.mem_map.2 ⟨x,hx,rfl⟩)];simp
 exact laidMet_layVars (w0:=w0) (laid.map (·.1)) [] (by rw[e1]) (by rw[e1];exact hf) (by rw[e1];exact hi) (by rw[e2];exact LaidIn.none)
theorem laidData (os:Os)(args:Array Value):laidMet Tryz.prog dataL ((laidWorld os).forCall (fun _ _=>0) ⟨#[],args,[]⟩).memory:=by
 have h:laidMet Tryz.prog dataL (laidWorld os):=laidMet_from (w0:=handleW os) (by kernel_rfl) (by kernel_rfl);exact h.of_heap (by simp[World.memory,World.forCall,Input.heap])
theorem laidWorld_met (os:Os)(args:Array Value):laidMetH Tryz.prog Rows.shardSweptRow.laid ((laidWorld os).forCall (fun _ _=>0) ⟨#[],args,[]⟩).memory:=
 laidMetH_of_parts (by
  have e:(Rows.shardSweptRow.laid.filter fun x=>x.2.handleName?.isNone)=dataL:=by kernel_rfl
  rw[e];exact laidData os args) (by kernel_rfl)
set_option maxRecDepth 100000 in
theorem lifted (os:Os)(started:os.Started)(H:Type)(enc:TypeId×Value→H):
 ReturnsInHanded {} Tryz.checked os 3 .any (fun w args=>(Rows.shardSweptSpec.pre enc Tryz.prog Tryz.f3 [] false w args∧laidMetH Tryz.prog Rows.shardSweptRow.laid w)∧sizedMet enc Tryz.prog Tryz.f3 (OpenSpec.ofChange Rows.shardSweptSpec) false w args)
  (Rows.shardSweptSpec.post enc Tryz.prog Tryz.f3 false true false false):=by
 refine returnsInHanded_of_change_and (C:=Tryz.checked) (X:=fun w _=>laidMetH Tryz.prog Rows.shardSweptRow.laid w) (fun _ _ _ hh h=>h.of_heap hh) own started (by kernel_rfl) Tryz.func3
  (ChangeSpec.witness_shaped (enc:=enc) (C:=Tryz.checked) (os:=os) (X:=fun w _=>laidMetH Tryz.prog Rows.shardSweptRow.laid w) false (laidWorld os) #[.int .i64 0, .slice none 0 0] 8 (World.layVars_os _ _ _)
   (World.shaped_of_ZipB (by kernel_rfl) (by kernel_rfl)) (by kernel_rfl) (by kernel_rfl) (by kernel_rfl)
   (laidWorld_met os _)) ?_
 intro W base args ds gs before hval0 hW _ hsz0 hL _;have hsz:(DataW.weightsEach Tryz.prog (Tryz.f3.params.toList++Rows.shardSweptSpec.plain.varTypes Tryz.prog) (ds++gs)).all (·≤reachBytes)=true:=hsz0;have hval:∀(j:Nat) t v,Tryz.f3.params[j]?=some t→args[j]?=some v→Value.okWide Tryz.prog W .any base t v:=hval0;have hW':=hW;obtain⟨p,q,hA0,hV,rfl,_,_⟩:=hW;have hA:DataW.TrodAll enc Tryz.prog W 0 (fun _=>true) true Tryz.f3.params.toList args.toList ds p:=hA0;rw[Tryz.params3]at hA hval hsz;obtain⟨v0,vs0,d0,ds0,p0,q0,hargs,rfl,rfl,h0,r0⟩:=trodAll_cons hA;obtain⟨v1,vs1,d1,ds1,p1,q1,rfl,rfl,rfl,h1,r1⟩:=trodAll_cons r0;obtain⟨rfl,rfl,rfl⟩:=trodAll_nil r1;obtain rfl:args= #[v0,v1]:=by cases args;simp_all
 obtain⟨rfl,rfl⟩:=trodVars_none hV;simp only[List.append_nil]at hW';have k1:=h1;have lt1:∀x∈p1,x.block<W.heap.size:=by obtain⟨m,hm⟩:=k1;exact DataW.trod_lt m _ _ _ hm
 obtain⟨a0,rfl,rfl,rfl,w0⟩:=open_int Tryz.underlying3 (hval 0 3 v0 rfl rfl) h0;obtain⟨a1,len1,cap1,rfl⟩:=okWide_slice Tryz.underlying22 (hval 1 22 v1 rfl rfl)
 have hwt1:∀n∈DataW.weights Tryz.prog 22 d1,n≤140737488351232:=fun n hn=>by
  have:=List.all_eq_true.1 hsz n (DataW.weights_mem_each (j:=1) (t:=22) rfl rfl n hn);exact of_decide_eq_true this
 obtain⟨fuel1,hf1⟩:=h1;clear hA0 hval0 hsz0;refine(Lim.walk3 a0 hf1 hwt1).mono fun e W' ⟨he,hb⟩=> ?_;subst he;exact⟨_,rfl,_,_,_,[],_,[],hW',trodAll_mk1 (shut_bool Tryz.underlying4 _),(trodAll_cons_mk (shut_int Tryz.underlying3 w0) (trodAll_cons_mk (Lim.Left4.trod laidOut (by kernel_rfl) (of_decide_eq_true (by kernel_rfl)) k1 hb lt1) trodAll_mk0)),rfl,hb.frame _,fun h=>by cases h⟩
theorem c1:Tryz.pinned.checked.prog.funcNamed Rows.shardSweptRow.func=some 3:=by kernel_rfl
theorem c2:Rows.shardSweptRow.wfByText (OpenSpec.ofChange Rows.shardSweptSpec)=true:=by kernel_rfl
theorem c3:Tryz.pinned.checked.prog.mainIs=some (true, "e0e1ce6042ff1bfa1a480162aa346abcbf611a3d1cef3ea3ba88b50f2423dcac".toList):=by kernel_rfl
theorem c4:true=Tryz.pinned.checked.prog.looks []:=by kernel_rfl
theorem c5:false=Rows.shardSweptRow.goesBy Tryz.pinned.checked.prog:=by kernel_rfl
theorem holds:Rows.ShardSweptSaid:=
 OpenClaim.holds_of_wide 3 Tryz.f3 rfl rfl rfl rfl rfl rfl rfl ⟨rfl,rfl,rfl,rfl,rfl⟩ rfl rfl rfl rfl rfl c1 Tryz.func3 closed
  (of_decide_eq_true (by kernel_rfl)) (by unfold Func.isWrapper;first|(rw[if_pos (by decide+kernel)];kernel_rfl)|(rw[if_neg (by decide+kernel)];exact⟨rfl,rfl⟩))
  (fun os started H enc _=>lifted os started H enc)
theorem proved:Rows.ShardSweptCardSaid:=
 Claim7.holds_tied_plain_at .later [] [.data, .handle, .pinned] true (true, "e0e1ce6042ff1bfa1a480162aa346abcbf611a3d1cef3ea3ba88b50f2423dcac") true holds (fun _ h=>by cases h) c2 (fun _ h=>by cases h) shardSwept_row_tie rfl ⟨rfl,rfl⟩ c3 rfl
  (fun f fn hf hfn=>by
   obtain rfl:f=3:=Option.some.inj (c1.symm.trans hf)|>.symm
   obtain rfl:fn=Tryz.f3:=(Option.some.inj (Tryz.func3.symm.trans hfn)).symm
   exact⟨c4,fun j t ht=>by
    rw[Tryz.params3]at ht;rcases j with _|_|j
    ·simp at ht;subst ht;kernel_rfl
    ·simp at ht;subst ht;kernel_rfl
    ·simp at ht⟩)
  c5
#print axioms proved
end Go.Proofs.YtckodcbgpffimaaGreatDoor.shardSwept
