/- Proved: the law BtreeApart returns true for every list of steps, every key, every value and every other key, in whatever memory, and changes nothing that was there. Conditions: none beyond the card's own (the tables of unicode/utf8 are as the program's text lays them; the code that runs does not read them). The names in the other texts were shortened by a program. -/
import Derived.Test.YtomffjeofpafnaaGreatDoorRowA
import Derived.Test.YtomffjeofpafnaaGreatDoorRows
import Derived.Test.YtomffjeofpafnaaGreatDoorTie
import Derived.Test.YtomffjeofpafnaaGreatDoorCards
import Derived.Lay
import Derived.LaidOnce
import Derived.SevenTiedAt
import Derived.Carry
namespace Go.Proofs.YtomffjeofpafnaaGreatDoor.btreeApart
open Go Go.Proofs Go.RowKit Go.ChangeShapes Go.WideShapes Go.ChangeAt
open Go.ChangeMaps (open_string shut_string)
set_option linter.unusedVariables false
theorem own:ownKnob Tryz.prog.godebug=none:=by kernel_rfl
theorem laidOut:laidOutB Tryz.prog=true:=by kernel_rfl
theorem slice_ok {P:Program}{w:World}{base:Nat}{t e:TypeId}{v:Value}(hu:P.underlying t=some (.slice e))(h:Value.okWide P w .any base t v):
 v= .slice none 0 0∨∃b off len cap,v= .slice (some ⟨b,off,none⟩) len cap∧∃row cells,w.shape? b=some (row,cells):=by
 simp only[Value.okWide,hu,Cell.okWide]at h;cases v with
 |slice a len cap=>
  cases a with
  |none=>
   left;unfold Cell.ok at h;rw[hu]at h
   split at h<;>simp_all
  |some a=>
   right;simp only[Cell.ok,hu]at h;obtain⟨_,_,_,h1,row,cells,h2,_⟩:=h;obtain⟨b,off,spot⟩:=a;dsimp only at h1;subst h1;exact⟨b,off,len,cap,rfl,row,cells,h2⟩
 |_=>simp_all[Cell.ok]
set_option maxRecDepth 100000 in
theorem lifted (os:Os)(started:os.Started)(H:Type)(enc:TypeId×Value→H):
 ReturnsInHanded {} Tryz.checked os 3 .any (fun w args=>(Rows.btreeApartSpec.pre enc Tryz.prog Tryz.f3 [] false w args∧laidMetH Tryz.prog Rows.btreeApartRow.laid w)∧sizedMet enc Tryz.prog Tryz.f3 (OpenSpec.ofChange Rows.btreeApartSpec) false w args)
  (Rows.btreeApartSpec.post enc Tryz.prog Tryz.f3 false true false false):=by
 refine returnsInHanded_of_change_and (C:=Tryz.checked) (X:=fun w _=>laidMetH Tryz.prog Rows.btreeApartRow.laid w) (fun _ _ _ hh h=>h.of_heap hh) own started (by kernel_rfl) Tryz.func3
  (ChangeSpec.witness_shaped (enc:=enc) (C:=Tryz.checked) (os:=os) (X:=fun w _=>laidMetH Tryz.prog Rows.btreeApartRow.laid w) false (World.laidAll Tryz.prog os Rows.btreeApartRow.laid) #[.slice none 0 0, .string ⟨#[]⟩, .string ⟨#[]⟩, .string ⟨#[]⟩] 8 (World.laidAll_os _ _ _)
   (World.shaped_of_ZipB (by kernel_rfl) (by kernel_rfl)) (by kernel_rfl) (by kernel_rfl) (by kernel_rfl)
   (by rw[MakeChecks.laidMetH_plain _ _ _ (by kernel_rfl)];exact laidMet_laidAll _ (by kernel_rfl) (by kernel_rfl))) ?_
 intro W base args ds gs before hval0 hW _ hsz0 hL _;have hsz:(DataW.weightsEach Tryz.prog (Tryz.f3.params.toList++Rows.btreeApartSpec.plain.varTypes Tryz.prog) (ds++gs)).all (·≤reachBytes)=true:=hsz0;have hval:∀(j:Nat) t v,Tryz.f3.params[j]?=some t→args[j]?=some v→Value.okWide Tryz.prog W .any base t v:=hval0;have hW':=hW;obtain⟨p,q,hA0,hV,rfl,_,_⟩:=hW;have hA:DataW.TrodAll enc Tryz.prog W 0 (fun _=>true) true Tryz.f3.params.toList args.toList ds p:=hA0;rw[Tryz.params3]at hA hval hsz;obtain⟨v0,vs0,d0,ds0,p0,q0,hargs,rfl,rfl,h0,r0⟩:=trodAll_cons hA;obtain⟨v1,vs1,d1,ds1,p1,q1,rfl,rfl,rfl,h1,r1⟩:=trodAll_cons r0;obtain⟨v2,vs2,d2,ds2,p2,q2,rfl,rfl,rfl,h2,r2⟩:=trodAll_cons r1;obtain⟨v3,vs3,d3,ds3,p3,q3,rfl,rfl,rfl,h3,r3⟩:=trodAll_cons r2;obtain⟨rfl,rfl,rfl⟩:=trodAll_nil r3;obtain rfl:args= #[v0,v1,v2,v3]:=by cases args;simp_all
 obtain⟨rfl,rfl⟩:=trodVars_none hV;simp only[List.append_nil]at hW';obtain⟨s1,rfl,rfl,rfl,w1⟩:=open_string Tryz.underlying9 (hval 1 9 v1 rfl rfl) h1;obtain⟨s2,rfl,rfl,rfl,w2⟩:=open_string Tryz.underlying9 (hval 2 9 v2 rfl rfl) h2;obtain⟨s3,rfl,rfl,rfl,w3⟩:=open_string Tryz.underlying9 (hval 3 9 v3 rfl rfl) h3;have k0:=h0;have lt0:∀x∈p0,x.block<W.heap.size:=by obtain⟨m,hm⟩:=k0;exact DataW.trod_lt m _ _ _ hm
 have hok:=slice_ok Tryz.underlying22 (hval 0 22 v0 rfl rfl);obtain⟨a0,len0,cap0,rfl⟩:=okWide_slice Tryz.underlying22 (hval 0 22 v0 rfl rfl)
 have hwt:∀n∈DataW.weights Tryz.prog 22 d0,n≤140737488351232:=fun n hn=>by
  have:=List.all_eq_true.1 hsz n (DataW.weights_mem_each (j:=0) (t:=22) rfl rfl n hn);exact of_decide_eq_true this
 have hst:len0≤9223372036854775807∧∀k,k<len0→∃q:Lim.StepP,∃blk off,a0=some ⟨blk,off,none⟩∧Lim.StepAt W blk (off+k*4) q:=by
  obtain⟨fuel,hf⟩:=h0;exact Lim.steps_read hf hwt
 have hok':(a0=none∧len0=0∧cap0=0)∨∃b off,a0=some ⟨b,off,none⟩∧∃row cells,W.shape? b=some (row,cells):=by
  rcases hok with h|⟨b,off,len,cap,h,hs⟩
  ·cases h;exact .inl ⟨rfl,rfl,rfl⟩
  ·cases h;exact .inr ⟨b,off,rfl,hs⟩
 clear hA0 hval0 hsz0;refine(Lim.walk3 s1 s2 s3 hok' hst.1 hst.2).mono fun e W' ⟨he,hb⟩=> ?_;subst he;exact⟨_,rfl,_,_,_,[],_,[],hW',trodAll_mk1 (shut_bool Tryz.underlying4 _),(trodAll_cons_mk (Lim.Left4.trod laidOut (by kernel_rfl) (of_decide_eq_true (by kernel_rfl)) k0 hb lt0) (trodAll_cons_mk (shut_string Tryz.underlying9 w1) (trodAll_cons_mk (shut_string Tryz.underlying9 w2) (trodAll_cons_mk (shut_string Tryz.underlying9 w3) trodAll_mk0)))),rfl,hb.frame _,fun h=>by cases h⟩
theorem holds:Rows.BtreeApartSaid:=
 OpenClaim.holds_of_wide 3 Tryz.f3 rfl rfl rfl rfl rfl rfl rfl ⟨rfl,rfl,rfl,rfl,rfl⟩ rfl rfl rfl rfl rfl (by kernel_rfl) Tryz.func3 (by kernel_rfl)
  (of_decide_eq_true (by kernel_rfl)) (by unfold Func.isWrapper;first|(rw[if_pos (by decide+kernel)];kernel_rfl)|(rw[if_neg (by decide+kernel)];exact⟨rfl,rfl⟩))
  (fun os started H enc _=>lifted os started H enc)
theorem proved:Rows.BtreeApartCardSaid:=
 Claim7.holds_tied_plain_at .later [] [.data, .pinned] true (true, "c4602fe68c207a7ab803b45538b6b110792f4b0ff9ed965a10f202c5d69dc557") false holds (fun _ h=>by cases h) (by kernel_rfl) (fun _ h=>by cases h) btreeApart_row_tie rfl ⟨rfl,rfl⟩ (by kernel_rfl) rfl
  (fun f fn hf hfn=>by
   obtain rfl:f=3:=Option.some.inj ((show Tryz.prog.funcNamed "buttery/butterylaw07.BtreeApart" =some 3 by kernel_rfl).symm.trans hf)|>.symm
   obtain rfl:fn=Tryz.f3:=(Option.some.inj (Tryz.func3.symm.trans hfn)).symm
   exact⟨by kernel_rfl,fun j t ht=>by
    rw[Tryz.params3]at ht;rcases j with _|_|_|_|j
    ·simp at ht;subst ht;kernel_rfl
    ·simp at ht;subst ht;kernel_rfl
    ·simp at ht;subst ht;kernel_rfl
    ·simp at ht;subst ht;kernel_rfl
    ·simp at ht⟩)
  (by kernel_rfl)
#print axioms proved
end Go.Proofs.YtomffjeofpafnaaGreatDoor.btreeApart
