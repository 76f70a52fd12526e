import Derived.Test.YtnahbemmgcjojaaGreatDoorKLease4g
namespace Sim.Lease
open Go Go.RowKit Go.Shelf Go.Proofs
set_option linter.unusedVariables false
attribute [local go_sem] Oper.semAt_some
theorem slice_of {W:World}{base:Nat}{e:TypeId}{size:Nat}{v:Value}{k:Nat}{xs:List Value}(h:W.ownsRow base e size v k xs):∃bs cap,v= .slice bs k cap:=by
 rcases h.2 with⟨h1,h2⟩|⟨gg,cap,cur,h1,_⟩
 ·exact⟨none,0,by rw[h1,h2]⟩
 ·exact⟨_,_,h1⟩
theorem Collect_is (B1 B2 b mb clock:Nat)(es:Array MapEntry)(o:Option L4)(ho:One clock es o)(now:Int)(w:World)(hB1:w.cell? ⟨B1,0,none⟩=some (.pointer (some ⟨b,0,none⟩)))(hB2:w.cell? ⟨B2,0,none⟩=some (.int .i64 now))
 (hm:w.cell? ⟨b,4,none⟩=some (.map (some mb))) (hh:w.heap[mb]?=some (.map es clock)):
 Calls Tryz.prog 110 #[.func (.func 112) #[] #[.pointer (some ⟨B1,0,none⟩), .pointer (some ⟨B2,0,none⟩)]] w fun e w'=>∃v,e= .returned v∧
  w'.ownsRow w.heap.size 174 4 v (outL now o).length (lcells (outL now o))∧(v= .slice none 0 0↔outL now o=[])∧Below w.heap.size w w':=by
 have hA:=Lib.hid (callsIn_wide.1 (AppendSeq_in B1 B2 b mb clock es o ho now w hB1 hB2 hm hh));clear hm hh hB1 hB2
 go_enter Tryz.func110,Tryz.ntmps110
 go_wp2_with (go_at_call 147;refine hA.out.mono ?_;rintro e w' ⟨v,rfl,hrow,hnil,hbl⟩;obtain⟨bs,cap,rfl⟩:=slice_of hrow)
 refine bodyPost_ret (results_tmp rfl _ _ _) rfl ?_;exact⟨_,rfl,hrow,hnil,hbl⟩
theorem SortedFunc_is (B1 B2 b mb clock:Nat)(es:Array MapEntry)(o:Option L4)(ho:One clock es o)(now:Int)(f:Value)(w:World)(hB1:w.cell? ⟨B1,0,none⟩=some (.pointer (some ⟨b,0,none⟩)))(hB2:w.cell? ⟨B2,0,none⟩=some (.int .i64 now))
 (hm:w.cell? ⟨b,4,none⟩=some (.map (some mb))) (hh:w.heap[mb]?=some (.map es clock)):
 Calls Tryz.prog 69 #[.func (.func 112) #[] #[.pointer (some ⟨B1,0,none⟩), .pointer (some ⟨B2,0,none⟩)],f] w fun e w'=>∃v,e= .returned v∧
  w'.ownsRow w.heap.size 174 4 v (outL now o).length (lcells (outL now o))∧(v= .slice none 0 0↔outL now o=[])∧Below w.heap.size w w':=by
 have hA:=Lib.hid (Collect_is B1 B2 b mb clock es o ho now w hB1 hB2 hm hh);have hle:=outL_le now o;clear hm hh hB1 hB2
 go_enter Tryz.func69,Tryz.ntmps69
 go_wp2_with (first|(go_at_call 110;refine hA.out.mono ?_;rintro e w' ⟨v,rfl,hrow,hnil,hbl⟩;obtain⟨bs,cap,rfl⟩:=slice_of hrow)|(go_at_call 111;refine(sort_small _ _ _ _ hle _).mono ?_;rintro e W2 ⟨rfl,he2⟩;rw[he2];clear he2))
 refine bodyPost_ret (results_tmp rfl _ _ _) rfl ?_;exact⟨_,rfl,hrow,hnil,hbl⟩
theorem All_is (b mb clock:Nat)(es:Array MapEntry)(o:Option L4)(ho:One clock es o)(now:Int)(w:World)
 (hm:w.cell? ⟨b,4,none⟩=some (.map (some mb))) (hh:w.heap[mb]?=some (.map es clock)):
 Calls Tryz.prog 33 #[.pointer (some ⟨b,0,none⟩), .int .i64 now] w fun e w'=>∃v,e= .returned v∧
  w'.ownsRow w.heap.size 174 4 v (outL now o).length (lcells (outL now o))∧(v= .slice none 0 0↔outL now o=[])∧Below w.heap.size w w':=by
 have hmb:mb<w.heap.size:=(Array.getElem?_eq_some_iff.1 hh).1;have hb:b<w.heap.size:=Decidable.byContradiction fun h=>by simp[World.cell?,Array.getElem?_eq_none (Nat.le_of_not_lt h)]at hm
 have hB0:Below w.heap.size w ((w.alloc (.cells #[.pointer (some ⟨b,0,none⟩)] 106)).alloc (.cells #[.int .i64 now] 3)):=((Below.refl _ w).alloc (Nat.le_refl _) _).alloc (by simp) _;have q2:=Boxed.new w 106 (.pointer (some ⟨b,0,none⟩))
 replace q2:=Boxed.alloc q2 (.cells #[.int .i64 now] 3)
 have q3:=Boxed.new (w.alloc (.cells #[.pointer (some ⟨b,0,none⟩)] 106)) 3 (.int .i64 now);simp only[World.size_alloc]at q3;have hA:=Lib.hid (fun f=>SortedFunc_is w.heap.size (w.heap.size+1) b mb clock es o ho now f _ q2.cell q3.cell ((hB0.cell (p:=⟨b,4,none⟩) hb).trans hm) ((hB0.block mb hmb).trans hh));have hB0':=Lib.hid hB0;clear hm hh hB0 q2 q3
 go_enter Tryz.func33,Tryz.ntmps33
 go_wp2_with (first|(go_at_call 70;refine(callsIn_wide.1 (out_in 6 _ _ _)).mono ?_;rintro e w' ⟨rfl,rfl⟩)|(go_at_call 69;refine(hA.out _).mono ?_;rintro e w' ⟨v,rfl,hrow,hnil,hbl⟩;obtain⟨bs,cap,rfl⟩:=slice_of hrow))
 refine bodyPost_ret (results_tmp rfl _ _ _) rfl ?_;exact⟨_,rfl,ownsRow_low hrow (by simp;omega),hnil,hB0'.out.trans (hbl.mono (by simp;omega))⟩
end Sim.Lease
