import Derived.Test.YtnahbemmgcjojaaGreatDoorKLease4f
namespace Sim.Lease
open Go Go.RowKit Go.Shelf Go.Proofs
set_option linter.unusedVariables false
attribute [local go_sem] Oper.semAt_some
theorem ownsRow_low {W:World}{base base':Nat}{e:TypeId}{size:Nat}{v:Value}{k:Nat}{xs:List Value}(h:W.ownsRow base e size v k xs)(hb:base'≤base):W.ownsRow base' e size v k xs:=by
 refine⟨h.1, ?_⟩;rcases h.2 with h0|⟨g,cap,cur,h1,h2,h3⟩
 ·exact .inl h0
 ·exact .inr ⟨g,cap,cur,h1,Nat.le_trans hb h2,h3⟩
set_option maxRecDepth 100000 in
set_option maxHeartbeats 2000000 in
theorem AppendSeq_in (B1 B2 b mb clock:Nat)(es:Array MapEntry)(o:Option L4)(ho:One clock es o)(now:Int)(w:World)(hB1:w.cell? ⟨B1,0,none⟩=some (.pointer (some ⟨b,0,none⟩)))(hB2:w.cell? ⟨B2,0,none⟩=some (.int .i64 now))
 (hm:w.cell? ⟨b,4,none⟩=some (.map (some mb))) (hh:w.heap[mb]?=some (.map es clock)):
 CallsIn Fence.wide 6 Tryz.prog 147 #[.slice none 0 0, .func (.func 112) #[] #[.pointer (some ⟨B1,0,none⟩), .pointer (some ⟨B2,0,none⟩)]] w fun e w'=>∃v,e= .returned v∧
  w'.ownsRow w.heap.size 174 4 v (outL now o).length (lcells (outL now o))∧(v= .slice none 0 0↔outL now o=[])∧Below w.heap.size w w':=by
 have hmb:mb<w.heap.size:=(Array.getElem?_eq_some_iff.1 hh).1;have hb:b<w.heap.size:=Decidable.byContradiction fun h=>by simp[World.cell?,Array.getElem?_eq_none (Nat.le_of_not_lt h)]at hm
 have hlB1:B1<w.heap.size:=Decidable.byContradiction fun h=>by simp[World.cell?,Array.getElem?_eq_none (Nat.le_of_not_lt h)]at hB1
 have hlB2:B2<w.heap.size:=Decidable.byContradiction fun h=>by simp[World.cell?,Array.getElem?_eq_none (Nat.le_of_not_lt h)]at hB2
 obtain⟨i0,hi,hz0,hz1,hz2⟩:=info_parts info201;have hm':=Lib.hid hm;have hh':=Lib.hid hh;have hB1':=Lib.hid hB1;have hB2':=Lib.hid hB2;clear hm hh hB1 hB2;refine callsIn_of_wp_marks Tryz.func147 rfl trivial ?_ rfl;simp only[Tryz.ntmps147,List.size_toArray,List.length_cons,List.length_nil,Nat.reduceAdd,Nat.reduceSub,Array.replicate_succ,Array.replicate_zero,List.push_toArray,List.append_toArray,List.nil_append,List.cons_append]
 gi_wp2
 have hB0:Below w.heap.size w (w.alloc (.cells #[.slice none 0 0] 71)):=(Below.refl _ w).alloc (Nat.le_refl _) _;have q1:=Boxed.new w 71 (.slice none 0 0)
 refine wpIn_rangeFunc_ownH rfl (by omega) (gf:=112) (lb:= #[.pointer (some ⟨B1,0,none⟩), .pointer (some ⟨B2,0,none⟩)]) rfl trivial (enters_of Tryz.func112 (by kernel_rfl) rfl)
  (out_stops 5 (by omega) _ _ b mb clock w.heap.size now es o ho hmb hb _ (by simp) ((hB0.cell (p:=⟨B1,0,none⟩) hlB1).trans hB1'.out) ((hB0.cell (p:=⟨B2,0,none⟩) hlB2).trans hB2'.out) (by simp;omega) (by simp;omega) ((hB0.cell (p:=⟨b,4,none⟩) hb).trans hm'.out) ((hB0.block mb hmb).trans hh'.out)) Kq.trans (Kq.putObj (by simp)) (Below.refl _ _) (fun _=>rfl)
  (fun pre W=>(∃v,Boxed W w.heap.size 71 v∧W.ownsRow w.heap.size 174 4 v pre.length (lcells pre)∧(v= .slice none 0 0↔pre=[]))∧Below w.heap.size w W)
  (fun _ _ _=>False)
  (OwnFrom.and (Own.from (fun s A B row hs hg hr=>holdsRow_own w.heap.size w.heap.size 71 174 4 (fun pre:List L4=>pre.length) lcells (fun pre v=>v= .slice none 0 0↔pre=[]) s A B row hs hg hr) _) (ownFrom_below (Nat.le_refl _) (by simp)))
  (fun _ _ _ _ _ hs _ _=>hs)
  ⟨⟨_,q1,World.ownsRow_nil _ _ _ _,by simp⟩,hB0⟩
  (fun x a' W=>∃Bx,w.heap.size<Bx∧Boxed4 W Bx x∧a'={tmps:= #[.slice none 0 0, .func (.func 112) #[] #[.pointer (some ⟨B1,0,none⟩), .pointer (some ⟨B2,0,none⟩)], .pointer (some ⟨w.heap.size,0,none⟩),undef, .slice none 0 0, .pointer (some ⟨Bx,0,none⟩), .func (.func 112) #[] #[.pointer (some ⟨B1,0,none⟩), .pointer (some ⟨B2,0,none⟩)],x.v,undef,undef,undef,undef,undef],defers:=[]})
  (fun x a'=>by
   rintro s A B row ⟨Bx,h1,h2,h3⟩ hg hr;exact⟨Bx,h1,boxed4_own Bx x () A B row h2 hg (fun r e=>(hr r e).2),h3⟩) ?assign ?body ?done ?stop
 case assign=>
  rintro l pre x W K ⟨⟨v,hv,hrow,hnil⟩,hB⟩ hK;have hlt:=hv.lt;have hK':=Lib.hid hK;have hv':=Lib.hid hv;have hrow':=Lib.hid hrow;have hnil':=Lib.hid hnil;clear hK hv hrow hnil q1 hB0;unfold L4.v lv
  gi_wp2
  exact hK'.out _ _ ((KeepsOthers.alloc _ _).from _) ⟨(Below.refl _ _).alloc hB.size _,KeepsWalks.alloc _ _⟩ ⟨⟨v,hv'.out.alloc _,hrow'.out.alloc _,hnil'.out⟩,hB.alloc hB.size _⟩ ⟨W.heap.size,hlt,hp_new W _,rfl⟩
 case body=>
  rintro l pre x a' W _ _ ⟨⟨v,hv,hrow,hnil⟩,hB⟩ ⟨Bx,hBx,h4,rfl⟩ hlen;obtain rfl:pre=[]:=List.eq_nil_of_length_eq_zero (by omega);have hnil':=Lib.hid hnil;have hf:=h4.cell 0 (by omega);have hf1:=h4.cell 1 (by omega);have hf2:=h4.cell 2 (by omega);have hf3:=h4.cell 3 (by omega);have hc:=hv.cell;have hv':=Lib.hid hv;have hrow':=Lib.hid hrow;have hB':=Lib.hid hB;clear q1 hB0 hv hrow hnil hB h4;simp only[L4.cs]at hf hf1 hf2 hf3
  gi_wp2_with (gi_at_builtin;go_loud (refine wpListIn_append_own _ rfl _ _ 71 rfl w.heap.size 174 i0 (.agg #[.string .empty, .int .i64 0, .int .i64 0, .int .i64 0]) 4 40 Tryz.underlying71 hi hz0 hz1 hz2 rfl (by decide) _ _ _ rfl (hrow'.out.alloc _) ⟨W.heap.size,0,none⟩ 1 1 x.cs rfl rfl (cell_four_new _ _ _ _ _ _) (by simp[Value.oneCell',L4.cs]) (by simp[maxLen]) (by simp) (by have:=hB'.out.size;simp;omega) ?_);intro v' w1 hown' hgrow _;obtain⟨g',cap',rfl⟩:=ownsRow_succ hown';obtain⟨hv1,hv2,hr2,hk2,hb2⟩:=hv'.out.appended (by decide) hrow'.out hB'.out.size (Nat.le_refl _) hown' hgrow;have hc4:=hv1.cell;have hf4:=hv1.frozen)
  refine⟨hk2.from _,⟨hb2,hk2.walks⟩,⟨⟨_,hv2, ?_, ?_⟩,hB'.out.trans hb2⟩⟩
  ·simpa[lcells]using hr2
  ·simp
 case done=>
  rintro D ys W hD rfl ⟨⟨v,hv,hrow,hnil⟩,hB⟩ hK;clear q1 hB0;have hc:=hv.cell
  have hv':∃bs cap,v= .slice bs (outL now o).length cap:=by
   rcases hrow.2 with⟨h1,h2⟩|⟨gg,cap,cur,h1,_⟩
   ·exact⟨none,0,by rw[h1,h2]⟩
   ·exact⟨_,_,h1⟩
  obtain⟨bs,cap,rfl⟩:=hv'
  gi_wp2
  refine⟨by simp, .inl ⟨_,_,rfl,run_takeDeferred hK, ?_⟩⟩;exact⟨_,results_tmp rfl _ _ _, .slice bs (outL now o).length cap,rfl,ownsRow_putObj hrow _ hK rfl,hnil,hB.trans (belowK_b (w:=w) (Nat.le_refl _) W D _ _ (by simp at hD;omega) hK rfl rfl)⟩
 case stop=>
  rintro D c pre W _ _ h _;exact h.elim
end Sim.Lease
