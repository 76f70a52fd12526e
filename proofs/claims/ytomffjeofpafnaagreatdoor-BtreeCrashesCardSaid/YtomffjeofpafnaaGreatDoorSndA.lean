import Derived.Test.YtomffjeofpafnaaGreatDoorLimJ
import Derived.Lib.SlKeysI
import Derived.Shelf.SlIterI.Collect
namespace Lim
open Go Go.Sort
noncomputable section
set_option linter.defProp false
section
variable {sz:Nat}{es:List eH}{f K:Nat}{t:TypeId}
structure Jv (P:Program)(f K:Nat)(t:TypeId):Prop where
 gR:gR P f=true
 und:P.underlying t=some (.int .i64)
 out:∀(B b nn:Nat) (D0:DataW Unit) (R:Value->Option (DataW Unit×List MemPlace)) (w:World),w.cell? ⟨B,0,none⟩=some (.map (some b))->B<w.heap.size->w.ownsMap P t R b nn D0->Maps.size D0<=maxLen->Maps.size D0*8<=140737488355328->
  Calls P f #[.func (.func K) #[] #[.pointer (some ⟨B,0,none⟩)]] w λe w'=>∃(v:Value) (ss:List Int),e=.returned v/\ss.Perm (intKeys D0)/\
   w'.ownsRow w.heap.size t 1 v ss.length ((ss.mergeSort leI).map encZ)/\(v=.slice none 0 0↔ss=[])/\Go.RowKit.Below w.heap.size w w'
section
variable {P:Program} {ρ:Ren} {st st':St} {w w':World} {v:CV}
def bh.below (h:WR ρ st w)(hb:Go.RowKit.Below w.heap.size w w'):bh ρ st w ρ st w':=
 ⟨⟨λb blk r sz h1 h2=>by
  obtain⟨o,e2,e3⟩:=h.at' b blk r sz h1 h2;exact⟨o,by rw[hb.block r (aEh.1 e2).1];exact e2,e3⟩,h.inj,h.fresh⟩,λ_ _ h=>h,λ_ _ h=>h,aDt _,λb blk _ sz h1 h2=>.inl ⟨b,blk,sz,h1,h2⟩,
   λr hr _=>hb.block r hr,hb.size,hb.os,hb.output⟩
def bh.later (h:WR ρ st w)(hb:Go.RowKit.Below w.heap.size w w'){g:Nat}{o:Obj}{blk:qN}(hg:w.heap.size<=g)(ho:w'.heap[g]?=some o)(RL:BR (ρ.set st.nx (g,sz)) blk o sz):
 bh ρ st w (ρ.set st.nx (g,sz)) (st.new blk) w':=by
 have hA:=(bh.below h hb).trans (bh.acs (bh.below h hb).wr blk)
 have hn:ρ st.nx=none:=by
  cases hh:ρ st.nx with
  |none=>rfl
  |some x=>have:=h.fresh _ x hh;omega
 have hle:ρ.le (ρ.set st.nx (g,sz)):=λq x hx=>by rw[Ren.du _ _ _ _ (λe=>by rw[e,hn]at hx;cases hx)];exact hx
 have gQ:∀q b2,q≠st.nx->(st.new blk).m.g q=some b2->st.m.g q=some b2:=λq b2 hq h1=>by simpa[St.new,PT.dn _ _ _ _ hq]using h1
 have Ca:∀q b2 r s,st.m.g q=some b2->ρ q=some (r,s)->r<w.heap.size:=λq b2 r s h1 h2=>by
  obtain⟨o,e2,_⟩:=h.at' q b2 r s h1 h2;exact(aEh.1 e2).1
 have hor:∀q b2 r s,(st.new blk).m.g q=some b2->ρ.set st.nx (g,sz) q=some (r,s)->(∃b0 blk0 CL,st.m.g b0=some blk0/\ρ b0=some (r,CL))\/w.heap.size<=r:=λq b2 r s h1 h2=>by
  by_cases e:q=st.nx
  .subst e;rw[Ren.eA]at h2;cases h2;exact .inr hg
  .rw[Ren.du _ _ _ _ e]at h2;exact hA.origin q b2 r s h1 h2
 refine⟨⟨λq b2 r s h1 h2=>?_,λq q' b1 b2 r s s' h1 h2 h3 h4=>?_,λq x hx=>?_⟩,hle,λq hq hr=>?_,hA.nx,hor,hA.kept,hb.size,hb.os,hb.output⟩
 .by_cases e:q=st.nx
  .subst e;simp only[St.new,PT.dg,aER]at h1;subst h1;rw[Ren.eA]at h2;cases h2;exact⟨o,ho,RL⟩
  .rw[Ren.du _ _ _ _ e]at h2;obtain⟨o',e2,e3⟩:=hA.wr.at' q b2 r s h1 h2;exact⟨o',e2,e3.mono hle⟩
 .by_cases e:q=st.nx
  .by_cases e':q'=st.nx
   .rw[e,e']
   .rw[e,Ren.eA]at h3;cases h3;rw[Ren.du _ _ _ _ e']at h4;have:=Ca q' b2 _ _ (gQ q' b2 e' h2) h4;omega
  .by_cases e':q'=st.nx
   .rw[e',Ren.eA]at h4;cases h4;rw[Ren.du _ _ _ _ e]at h3;have:=Ca q b1 _ _ (gQ q b1 e h1) h3;omega
   .rw[Ren.du _ _ _ _ e]at h3;rw[Ren.du _ _ _ _ e']at h4;exact h.inj q q' b1 b2 r s s' (gQ q b1 e h1) (gQ q' b2 e' h2) h3 h4
 .show q<st.nx+1
  by_cases e:q=st.nx
  .omega
  .rw[Ren.du _ _ _ _ e]at hx;have:=h.fresh q x hx;omega
 .rw[Ren.du _ _ _ _ (λe=>by rw[e]at hq;omega)];exact hr
def On (l:List Int):eF ρ (l.map I) (l.map encZ):=by
 induction l with
 |nil=>exact eF.nil ρ
 |cons x l ih=>exact eF.cons (.int _ _) ih
def KH {b:Nat}{r:Nat}(hw:WR ρ st w)(he:nu (st.m.g b) es)(hk:iq es)(hr:ρ b=some (r,sz)):
 ∃(es':List MapEntry) (clock:Nat) (pl:List eH),w.heap[r]?=some (.map es'.toArray clock)/\pl.Perm es/\pl.length=es'.length/\
  (∀(i:Nat) (e:eH) (e':MapEntry),pl[i]?=some e->es'[i]?=some e'->VR ρ e.1 e'.key/\VR ρ e.2.1 e'.val)/\(∀x∈es',x.born<clock)/\(es'.map (·.born)).Nodup:=by
 unfold nu at he
 split at he
 .rename_i ZM clock hm;obtain⟨rfl,b1,b2⟩:=he;obtain⟨es',h1,h2,h3⟩:=hw.map hm hr
  have hbm:es'.map (·.born)=ZM.map (·.2.2):=by
   apply aFL;intro i;rw[aEf,aEf];rcases aEG i es'.length with hlt|jW
   .rw[aDu hlt,aDu pX];have:=(h3 i ZM[i] es'[i] (aDu pX) (aDu hlt)).2.2;simp[this]
   .have YY:ZM.length<=i:=by omega
    rw[aEl jW,aEl YY];rfl
  refine⟨es',clock,ZM,h1,List.Perm.refl _,h2,λi e e' g1 g2=>⟨(h3 i e e' g1 g2).1,(h3 i e e' g1 g2).2.1⟩,λx hx=>?_,by rw[hbm];exact b2⟩;have:x.born∈es'.map (·.born):=aEA hx;rw[hbm,aDR]at this;obtain⟨e,he,Ky⟩:=this;rw[<-Ky];exact b1 e he
 .rename_i ZM hm;subst he;obtain⟨pl,clock,es',h1,h2,h3,h4,h5,h6,h7⟩:=hw.lmap hm hr;exact⟨es',clock,pl,h1,h2,h6,h7,λx hx=>h5.1 x WL,by simpa using h5.2.1⟩
 .exact he.elim
def AV (hf:Jv P f K t){bb mb:Nat}{ty:TypeId}{g:Bool}(hk:iq es)
 (VO:st.m.g bb=some (.cells [.map mb] ty g)) (he:nu (st.m.g mb) es) (h:vu t es st=.ok v st'):
 Lim.gR P f=true/\En P f [.func (.func K) [] [.ptr bb 0]] st v st':=by
 refine⟨hf.gR,?_⟩;intro ρ w args' hw ha;obtain⟨x',t',e1,hx,Ez⟩:=ha.inv;have e3:t'=[]:=by have:=Ez.len;simpa using this.symm
 subst e3;have e4:args'= #[x']:=abu
 subst e4;obtain⟨nt,aen,Bg⟩:=hk;cases hx with
 |func _ _ _ f' c' g1 g2 g3 g4=>
  have hf0:f'=[]:=by have:(0:Nat)=f'.length:=g1;exact aDP.1 this.symm
  subst hf0;obtain⟨p',rest,rfl,hp,Ko⟩:=(eF.mk (ρ:=ρ) g2 g4).inv;have tf:=aDP.1 Ko.len.symm;subst tf;cases hp with
  |ptr _ _ B zB hB=>
   obtain⟨c,lo,hi,a1,a2,a3,a4,a5⟩:=hw.row VO hB
   obtain⟨m',zU,M6⟩:∃m',(c.toList.take 1)[0]?=some m'/\VR ρ (.map mb) m':=by
    have hl:=a4.len;obtain⟨m',tt,q1,q2,_⟩:=a4.inv;exact⟨m',by rw[show(1:Nat)=[CV.map mb].length from rfl,q1];rfl,q2⟩
   cases M6 with
   |map _ r sz hr=>
    obtain⟨es',clock,pl,b1,b2,b3,b4,b5,b6⟩:=KH hw he ⟨nt,aen,Bg⟩ hr
    have sh:w.cell? ⟨B,0,none⟩=some (.map (some r)):=by
     have:c.toList[0]?=some (.map (some r)):=by
      rw[aFe]at zU
      split at zU
      .exact zU
      .cases zU
     simp only[World.cell?,a1];simpa using this
    have hBl:=(aEh.1 a1).1
    have mM:∀i (ff:i<es'.length),∃(hlt:i<pl.length) (a:Int),pl[i].1=.int .i64 a/\es'[i].key=.int .i64 a/\0<=a/\a<=9223372036854775807:=by
     intro i ff;have hlt:i<pl.length:=pX
     have hv:=(b4 i pl[i] _ (aDu hlt) (aDu ff)).1;obtain⟨a,k2,k3,k4⟩:=nt _ (b2.mem_iff.1 (aDL hlt));rw[k2]at hv;exact⟨hlt,a,k2,uL hv,k3,k4⟩
    have Gu:∀x∈es',∃a:Int,x.key=.int .i64 a/\0<=a/\a<=9223372036854775807:=by
     intro x hx;obtain⟨i,ff,rfl⟩:=aEv hx;obtain⟨_,a,_,k2,k3,k4⟩:=mM i ff;exact⟨a,k2,k3,k4⟩
    have Vt:(es'.map λx=>(match x.key with| .int _ a=>a|_=>0)).Perm (iX es):=by
     have h1:es'.map (λx=>(match x.key with| .int _ a=>a|_=>0))=iX pl:=by
      unfold iX;apply aFL;intro i;rw[aEf,aEf];rcases aEG i es'.length with hlt|jW
      .obtain⟨I5,a,k1,k2,_⟩:=mM i hlt;rw[aDu hlt,aDu I5];simp[k1,k2]
      .have YY:pl.length<=i:=by omega
       rw[aEl jW,aEl YY];rfl
     rw[h1];exact b2.map _
    have qA:(es'.map (·.key)).Nodup:=by
     have hn:=Vt.nodup_iff.2 aen;unfold List.Nodup at hn⊢;rw[aFx]at hn⊢;exact hn.imp λvZ e=>vZ (by rw[e])
    have hst:Go.MapKept.Stamped es'.toArray clock:=⟨λx hx=>b5 x WL,by simpa using b6,by simpa using qA⟩;have hlen:es'.length=es.length:=by rw[<-b3,b2.length_eq]
    have hko:∀x∈es',∃a:Int,x.key=.int .i64 a/\Go.keyOf P t x.key=some (.int .i64 a):=by
     intro x hx;obtain⟨a,P3,Ez,TX⟩:=Gu x hx;refine⟨a,P3,?_⟩;unfold Go.keyOf mapKey;rw[hf.und,P3];have m1:IntKind.i64.min= -9223372036854775808:=wI
     have m2:IntKind.i64.max=9223372036854775807:=wI
     simp[Lit.wf,m1,m2];omega
    have Bc:∀x∈es',∃y,Go.WideElems.rd P t (λ_=>some ((.nil:DataW Unit),([]:List MemPlace))) x=some y:=by
     intro x hx;obtain⟨a,_,h2⟩:=hko x hx;exact⟨(.int .i64 a,.nil),by simp[Go.WideElems.rd,h2]⟩
    have xf:w.ownsMap P t (λ_=>some ((.nil:DataW Unit),([]:List MemPlace))) r es'.length (.map ((es'.toArray.toList.map (Go.WideElems.rg P t λ_=>some ((.nil:DataW Unit),([]:List MemPlace)))).foldr DataW.insert [])):=
     ⟨es'.toArray,clock,b1,⟨by show es'.toArray.size<=maxLen;simp only[aFK,maxLen];omega,hst,λx hx=>Bc x WL⟩,rq,rfl⟩
    have mY:Maps.size (H:=Unit) (.map ((es'.toArray.toList.map (Go.WideElems.rg P t λ_=>some ((.nil:DataW Unit),([]:List MemPlace)))).foldr DataW.insert []))=es'.length:=by
     show(List.foldr (DataW.insert (H:=Unit)) _ _).length=_;rw[Go.length_sorted];simp
    have PF:(intKeys (H:=Unit) (.map ((es'.toArray.toList.map (Go.WideElems.rg P t λ_=>some ((.nil:DataW Unit),([]:List MemPlace)))).foldr DataW.insert []))).Perm (iX es):=by
     refine(List.Perm.map _ (Go.WideShapes.sorted_perm _)).trans ?_;rw[aFN]
     have:es'.toArray.toList.map ((λp=>intOf p.1)∘Go.WideElems.rg P t λ_=>some ((.nil:DataW Unit),([]:List MemPlace)))=es'.map λx=>(match x.key with| .int _ a=>a|_=>0):=by
      apply List.map_congr_left;intro x hx;obtain⟨a,P3,h2⟩:=hko x hx;rw[P3]at h2;simp[Go.WideElems.rg,Go.WideElems.rd,h2,P3,intOf]
     rw[this];exact Vt
    refine(hf.out B r es'.length _ _ w sh hBl xf (by rw[mY];simp only[maxLen];omega) (by rw[mY];omega)).mono ?_;rintro e w' ⟨v',ss,rfl,hss,jB,I3,si⟩;have Kr:=hss.trans PF;have Cd:ss.mergeSort leI=oF (iX es):=mergeSort_of_perm_i Kr;have lu:ss.length=es.length:=by rw[Kr.length_eq];simp[iX]
    unfold vu at h
    split at h
    .rename_i h0;cases h;subst h0;have Yl:=aDP.1 (by rw[lu];rfl);have:=I3.2 Yl;subst this;exact⟨_,ρ,rfl,.ae,bh.below hw si⟩
    .rename_i h0;cases h;have h0':=aFg.2 h0;rcases jB.2 with⟨q1,q2⟩|⟨gg,cap,cur,q1,q2,q3,q4,q5,q6,q7⟩
     .have:=q2;omega
     .rw[Cd]at q7
      have hsz:((oF (iX es)).map I).length=ss.length:=by
       rw[<-Cd,aEt,List.length_mergeSort]
      have hiv:eF (ρ.set st.nx (gg,cur.size)) ((oF (iX es)).map I) (cur.toList.take ((oF (iX es)).map I).length):=by
       rw[hsz,show ss.length=ss.length*1 from(aEQ _).symm,q7];exact On _
      have RL:=BR.cells (ρ:=ρ.set st.nx (gg,cur.size)) ((oF (iX es)).map I) t true cur 0 0 (by rw[hsz,q6];omega) hiv pX (λhh=>by cases hh);have hA:=bh.later hw si q2 q3 RL;refine⟨v',_,rfl,?_,hA⟩;rw[q1,lu];exact .nN _ 0 0 _ _ cap 1 gg cur.size (Ren.eA _ _ _) pX (aDt _) pX (λ_=>rfl) pX
def ER (hf:Jv P f K t){args:List CV}(h:ES K t args st=some (.ok v st')):qM P f args st v st':=by
 left;unfold ES at h
 split at h
 .rename_i k bb
  split at h
  .rename_i mb ty g VO
   split at h
   .rename_i hc;obtain⟨rfl,h2,h3⟩:=hc;exact AV hf h3 VO h2 (aFr h)
   .cases h
  .cases h
 .cases h
end
end
