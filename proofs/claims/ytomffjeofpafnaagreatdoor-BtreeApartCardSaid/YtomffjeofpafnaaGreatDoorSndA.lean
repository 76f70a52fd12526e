import Derived.Test.YtomffjeofpafnaaGreatDoorLimJ
import Derived.Lib.SlKeysI
import Derived.Shelf.SlIterI.Collect
namespace Lim
open Go Go.Sort
noncomputable section
structure IC (P:Program)(f K:Nat)(t:TypeId):Prop where
 gN:gN P f=true
 und:P.underlying t=some (.int .i64)
 out:∀(B b nn:Nat) (D0:DataW Unit) (R:Value->Option (DataW Unit×List MemPlace)) (w:World),w.cell? ⟨B,0,none⟩=some (.map (some b))->B<w.heap.size->w.ownsMap P t R b nn D0->Maps.size D0<=maxLen->Maps.size D0*8<=140737488355328->
  Calls P f #[.func (.func K) #[] #[.pointer (some ⟨B,0,none⟩)]] w fun e w'=>∃(v:Value) (ss:List Int),e= .returned v/\ss.Perm (intKeys D0)/\
   w'.ownsRow w.heap.size t 1 v ss.length ((ss.mergeSort leI).map encZ)/\(v= .slice none 0 0↔ss=[])/\Go.RowKit.Below w.heap.size w w'
section
variable {P:Program} {ρ:Ren} {st st':St} {w w':World} {v:CV}
theorem bf.below (h:WR ρ st w)(hb:Go.RowKit.Below w.heap.size w w'):bf ρ st w ρ st w':=
 ⟨⟨fun b blk r sz h1 h2=>by
  obtain⟨o,e2,e3⟩:=h.at' b blk r sz h1 h2;exact⟨o,by rw[hb.block r (aBI.1 e2).1];exact e2,e3⟩,h.inj,h.fresh⟩,fun _ _ h=>h,fun _ _ h=>h,aAU _,fun b blk _ sz h1 h2=> .inl ⟨b,blk,sz,h1,h2⟩,
   fun r hr _=>hb.block r hr,hb.size,hb.os,hb.output⟩
theorem bf.later (h:WR ρ st w)(hb:Go.RowKit.Below w.heap.size w w'){g sz:Nat}{o:Obj}{blk:qS}(hg:w.heap.size<=g)(ho:w'.heap[g]?=some o)(QW:BR (ρ.set st.next (g,sz)) blk o sz):
 bf ρ st w (ρ.set st.next (g,sz)) (st.new blk) w':=by
 have hA:=(bf.below h hb).trans (bf.aaC (bf.below h hb).wr blk)
 have hn:ρ st.next=none:=by
  cases hh:ρ st.next with
  |none=>rfl
  |some x=>have:=h.fresh _ x hh;omega
 have hle:ρ.le (ρ.set st.next (g,sz)):=fun q x hx=>by rw[Ren.dp _ _ _ _ (fun e=>by rw[e,hn]at hx;cases hx)];exact hx
 have ij:∀q b2,q≠st.next->(st.new blk).mem.get q=some b2->st.mem.get q=some b2:=fun q b2 hq h1=>by simpa[St.new,PT.cZ _ _ _ _ hq]using h1
 have BD:∀q b2 r s,st.mem.get q=some b2->ρ q=some (r,s)->r<w.heap.size:=fun q b2 r s h1 h2=>by
  obtain⟨o,e2,_⟩:=h.at' q b2 r s h1 h2;exact(aBI.1 e2).1
 have Zu:∀q b2 r s,(st.new blk).mem.get q=some b2->ρ.set st.next (g,sz) q=some (r,s)->(∃b0 blk0 Cj,st.mem.get b0=some blk0/\ρ b0=some (r,Cj))\/w.heap.size<=r:=fun q b2 r s h1 h2=>by
  by_cases e:q=st.next
  ·subst e;rw[Ren.eA]at h2;cases h2;exact .inr hg
  ·rw[Ren.dp _ _ _ _ e]at h2;exact hA.origin q b2 r s h1 h2
 refine⟨⟨fun q b2 r s h1 h2=> ?_,fun q q' b1 b2 r s s' h1 h2 h3 h4=> ?_,fun q x hx=> ?_⟩,hle,fun q hq hr=> ?_,hA.next,Zu,hA.kept,hb.size,hb.os,hb.output⟩
 ·by_cases e:q=st.next
  ·subst e;simp only[St.new,PT.cP,aCs]at h1;subst h1;rw[Ren.eA]at h2;cases h2;exact⟨o,ho,QW⟩
  ·rw[Ren.dp _ _ _ _ e]at h2;obtain⟨o',e2,e3⟩:=hA.wr.at' q b2 r s h1 h2;exact⟨o',e2,e3.mono hle⟩
 ·by_cases e:q=st.next
  ·by_cases e':q'=st.next
   ·rw[e,e']
   ·rw[e,Ren.eA]at h3;cases h3;rw[Ren.dp _ _ _ _ e']at h4;have:=BD q' b2 _ _ (ij q' b2 e' h2) h4;omega
  ·by_cases e':q'=st.next
   ·rw[e',Ren.eA]at h4;cases h4;rw[Ren.dp _ _ _ _ e]at h3;have:=BD q b1 _ _ (ij q b1 e h1) h3;omega
   ·rw[Ren.dp _ _ _ _ e]at h3;rw[Ren.dp _ _ _ _ e']at h4;exact h.inj q q' b1 b2 r s s' (ij q b1 e h1) (ij q' b2 e' h2) h3 h4
 ·show q<st.next+1
  by_cases e:q=st.next
  ·omega
  ·rw[Ren.dp _ _ _ _ e]at hx;have:=h.fresh q x hx;omega
 ·rw[Ren.dp _ _ _ _ (fun e=>by rw[e]at hq;omega)];exact hr
theorem Nu (l:List Int):eu ρ (l.map I) (l.map encZ):=by
 induction l with
 |nil=>exact eu.nil ρ
 |cons x l ih=>exact eu.cons (.int _ _) ih
theorem JO {b:Nat}{es:List eE}{r sz:Nat}(hw:WR ρ st w)(he:mQ (st.mem.get b) es)(hk:ic es)(hr:ρ b=some (r,sz)):
 ∃(es':List MapEntry) (clock:Nat) (pl:List eE),w.heap[r]?=some (.map es'.toArray clock)/\pl.Perm es/\pl.length=es'.length/\
  (∀(i:Nat) (e:eE) (e':MapEntry),pl[i]?=some e->es'[i]?=some e'->VR ρ e.1 e'.key/\VR ρ e.2.1 e'.val)/\(∀x∈es',x.born<clock)/\(es'.map (·.born)).Nodup:=by
 unfold mQ at he
 split at he
 ·rename_i Ys clock hm;obtain⟨rfl,b1,b2⟩:=he;obtain⟨es',h1,h2,h3⟩:=hw.map hm hr
  have ZE:es'.map (·.born)=Ys.map (·.2.2):=by
   apply aCY;intro i;rw[aBN,aBN];rcases aCn i es'.length with hlt|nY
   ·rw[aAV hlt,aAV (by omega)];have:=(h3 i Ys[i] es'[i] (aAV (by omega)) (aAV hlt)).2.2;simp[this]
   ·have XF:Ys.length<=i:=by omega
    rw[aBL nY,aBL XF];rfl
  refine⟨es',clock,Ys,h1,List.Perm.refl _,h2,fun i e e' g1 g2=>⟨(h3 i e e' g1 g2).1,(h3 i e e' g1 g2).2.1⟩,fun x hx=> ?_,by rw[ZE];exact b2⟩;have:x.born∈es'.map (·.born):=aCb hx;rw[ZE,aBv]at this;obtain⟨e,he,Md⟩:=this;rw[<-Md];exact b1 e he
 ·rename_i Ys hm;subst he;obtain⟨pl,clock,es',h1,h2,h3,h4,h5,h6,h7⟩:=hw.lmap hm hr;exact⟨es',clock,pl,h1,h2,h6,h7,fun x hx=>h5.1 x (by simpa using hx),by simpa using h5.2.1⟩
 ·exact he.elim
theorem Au {f K:Nat}{t:TypeId}(hf:IC P f K t){es:List eE}{bb mb:Nat}{ty:TypeId}{g:Bool}(hk:ic es)
 (U1:st.mem.get bb=some (.cells [.map mb] ty g)) (he:mQ (st.mem.get mb) es) (h:uM t es st= .ok v st'):
 Lim.gN P f=true/\DN P f [.func (.func K) [] [.ptr bb 0]] st v st':=by
 refine⟨hf.gN, ?_⟩;intro ρ w args' hw ha;obtain⟨x',t',e1,hx,DS⟩:=ha.inv;have e3:t'=[]:=by have:=DS.len;simpa using this.symm
 subst e3;have e4:args'= #[x']:=by rw[<-aCw (xs:=args'),e1]
 subst e4;obtain⟨oV,acG,GL⟩:=hk;cases hx with
 |func _ _ _ f' c' g1 g2 g3 g4=>
  have US:f'=[]:=by have:(0:Nat)=f'.length:=g1;exact aBn.1 this.symm
  subst US;obtain⟨p',rest,rfl,hp,BC⟩:=(eu.mk (ρ:=ρ) g2 g4).inv;have pB:rest=[]:=aBn.1 BC.len.symm;subst pB;cases hp with
  |ptr _ _ B zB hB=>
   obtain⟨c,lo,hi,a1,a2,a3,a4,a5⟩:=hw.row U1 hB
   obtain⟨m',Fl,QN⟩:∃m',(c.toList.take 1)[0]?=some m'/\VR ρ (.map mb) m':=by
    have hl:=a4.len;obtain⟨m',tt,q1,q2,_⟩:=a4.inv;exact⟨m',by rw[show(1:Nat)=[CV.map mb].length from rfl,q1];rfl,q2⟩
   cases QN with
   |map _ r sz hr=>
    obtain⟨es',clock,pl,b1,b2,b3,b4,b5,b6⟩:=JO hw he ⟨oV,acG,GL⟩ hr
    have lj:w.cell? ⟨B,0,none⟩=some (.map (some r)):=by
     have:c.toList[0]?=some (.map (some r)):=by
      rw[aCU]at Fl
      split at Fl
      ·exact Fl
      ·cases Fl
     simp only[World.cell?,a1];simpa using this
    have hBl:B<w.heap.size:=(aBI.1 a1).1
    have nR:∀i (fw:i<es'.length),∃(hlt:i<pl.length) (a:Int),pl[i].1= .int .i64 a/\es'[i].key= .int .i64 a/\0<=a/\a<=9223372036854775807:=by
     intro i fw;have hlt:i<pl.length:=by omega
     have hv:=(b4 i pl[i] _ (aAV hlt) (aAV fw)).1;obtain⟨a,k2,k3,k4⟩:=oV _ (b2.mem_iff.1 (aBq hlt));rw[k2]at hv;exact⟨hlt,a,k2,uk hv,k3,k4⟩
    have Fx:∀x∈es',∃a:Int,x.key= .int .i64 a/\0<=a/\a<=9223372036854775807:=by
     intro x hx;obtain⟨i,fw,rfl⟩:=aBT hx;obtain⟨_,a,_,k2,k3,k4⟩:=nR i fw;exact⟨a,k2,k3,k4⟩
    have UH:(es'.map fun x=>(match x.key with| .int _ a=>a|_=>0)).Perm (iC es):=by
     have h1:es'.map (fun x=>(match x.key with| .int _ a=>a|_=>0))=iC pl:=by
      unfold iC;apply aCY;intro i;rw[aBN,aBN];rcases aCn i es'.length with hlt|nY
      ·obtain⟨Ic,a,k1,k2,_⟩:=nR i hlt;rw[aAV hlt,aAV Ic];simp[k1,k2]
      ·have XF:pl.length<=i:=by omega
       rw[aBL nY,aBL XF];rfl
     rw[h1];exact b2.map _
    have rD:(es'.map (·.key)).Nodup:=by
     have hn:=UH.nodup_iff.2 acG;unfold List.Nodup at hn⊢;rw[aCZ]at hn⊢;exact hn.imp fun vE e=>vE (by rw[e])
    have hst:Go.MapKept.Stamped es'.toArray clock:=⟨fun x hx=>b5 x (by simpa using hx),by simpa using b6,by simpa using rD⟩;have hlen:es'.length=es.length:=by rw[<-b3,b2.length_eq]
    have Zy:∀x∈es',∃a:Int,x.key= .int .i64 a/\Go.keyOf P t x.key=some (.int .i64 a):=by
     intro x hx;obtain⟨a,Pf,DS,S0⟩:=Fx x hx;refine⟨a,Pf, ?_⟩;unfold Go.keyOf mapKey;rw[hf.und,Pf];have m1:IntKind.i64.min= -9223372036854775808:=by decide
     have m2:IntKind.i64.max=9223372036854775807:=by decide
     simp[Lit.wf,m1,m2];omega
    have AN:∀x∈es',∃y,Go.WideElems.rd P t (fun _=>some ((.nil:DataW Unit),([]:List MemPlace))) x=some y:=by
     intro x hx;obtain⟨a,_,h2⟩:=Zy x hx;exact⟨(.int .i64 a, .nil),by simp[Go.WideElems.rd,h2]⟩
    have vx:w.ownsMap P t (fun _=>some ((.nil:DataW Unit),([]:List MemPlace))) r es'.length (.map ((es'.toArray.toList.map (Go.WideElems.rg P t fun _=>some ((.nil:DataW Unit),([]:List MemPlace)))).foldr DataW.insert [])):=
     ⟨es'.toArray,clock,b1,⟨by show es'.toArray.size<=maxLen;simp only[aDm,maxLen];omega,hst,fun x hx=>AN x (by simpa using hx)⟩,by simp,rfl⟩
    have mE:Maps.size (H:=Unit) (.map ((es'.toArray.toList.map (Go.WideElems.rg P t fun _=>some ((.nil:DataW Unit),([]:List MemPlace)))).foldr DataW.insert []))=es'.length:=by
     show(List.foldr (DataW.insert (H:=Unit)) _ _).length=_;rw[Go.length_sorted];simp
    have OX:(intKeys (H:=Unit) (.map ((es'.toArray.toList.map (Go.WideElems.rg P t fun _=>some ((.nil:DataW Unit),([]:List MemPlace)))).foldr DataW.insert []))).Perm (iC es):=by
     refine(List.Perm.map _ (Go.WideShapes.sorted_perm _)).trans ?_;rw[aDo]
     have:es'.toArray.toList.map ((fun p=>intOf p.1)∘Go.WideElems.rg P t fun _=>some ((.nil:DataW Unit),([]:List MemPlace)))=es'.map fun x=>(match x.key with| .int _ a=>a|_=>0):=by
      apply List.map_congr_left;intro x hx;obtain⟨a,Pf,h2⟩:=Zy x hx;rw[Pf]at h2;simp[Go.WideElems.rg,Go.WideElems.rd,h2,Pf,intOf]
     rw[this];exact UH
    refine(hf.out B r es'.length _ _ w lj hBl vx (by rw[mE];simp only[maxLen];omega) (by rw[mE];omega)).mono ?_;rintro e w' ⟨v',ss,rfl,hss,gw,H0,tk⟩;have Jw:ss.Perm (iC es):=hss.trans OX;have BE:ss.mergeSort leI=oo (iC es):=mergeSort_of_perm_i Jw;have kN:ss.length=es.length:=by rw[Jw.length_eq];simp[iC]
    unfold uM at h
    split at h
    ·rename_i h0;cases h;subst h0;have WW:ss=[]:=aBn.1 (by rw[kN];rfl);have:=H0.2 WW;subst this;exact⟨_,ρ,rfl, .ae,bf.below hw tk⟩
    ·rename_i h0;cases h;have h0':0<es.length:=aDd.2 h0;rcases gw.2 with⟨q1,q2⟩|⟨gg,cap,cur,q1,q2,q3,q4,q5,q6,q7⟩
     ·have:ss.length=0:=q2;omega
     ·rw[BE]at q7
      have hsz:((oo (iC es)).map I).length=ss.length:=by
       rw[<-BE,aCa,List.length_mergeSort]
      have hiv:eu (ρ.set st.next (gg,cur.size)) ((oo (iC es)).map I) (cur.toList.take ((oo (iC es)).map I).length):=by
       rw[hsz,show ss.length=ss.length*1 from(aCF _).symm,q7];exact Nu _
      have QW:=BR.cells (ρ:=ρ.set st.next (gg,cur.size)) ((oo (iC es)).map I) t true cur 0 0 (by rw[hsz,q6];omega) hiv (by omega) (fun hh=>by cases hh);have hA:=bf.later hw tk q2 q3 QW;refine⟨v',_,rfl, ?_,hA⟩;rw[q1,kN];exact .nj _ 0 0 _ _ cap 1 gg cur.size (Ren.eA _ _ _) (by omega) (aAU _) (by omega) (fun _=>rfl) (by omega)
theorem Eg {f K:Nat}{t:TypeId}(hf:IC P f K t){args:List CV}(h:Eh K t args st=some (.ok v st')):qz P f args st v st':=by
 left;unfold Eh at h
 split at h
 ·rename_i k bb
  split at h
  ·rename_i mb ty g U1
   split at h
   ·rename_i hc;obtain⟨rfl,h2,h3⟩:=hc;exact Au hf h3 U1 h2 (aCB h)
   ·cases h
  ·cases h
 ·cases h
end
