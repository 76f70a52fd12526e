import Derived.Test.YtomffjeofpafnaaGreatDoorLimJ
import Derived.Lib.SlKeysI
import Derived.Shelf.SlIterI.Collect
namespace Lim
open Go Go.Sort
noncomputable section
set_option linter.defProp false
section
variable {sz:Nat}{es:List eS}{f K:Nat}{t:TypeId}
structure Ks (P:Program)(f K:Nat)(t:TypeId):Prop where
 ia:ia P f=true
 und:P.underlying t=some (.int .i64)
 out:∀(B b nn:Nat) (D0:DataW Unit) (R:Value->Option (DataW Unit×List MemPlace)) (w:World),w.cell? ⟨B,0,none⟩=some (.map (some b))->B<w.heap.size->w.ownsMap P t R b nn D0->Maps.size D0<=maxLen->Maps.size D0*8<=140737488355328->
  Calls P f #[.func (.func K) #[] #[.pointer (some ⟨B,0,none⟩)]] w λe w'=>∃(v:Value) (ss:List Int),e=.returned v/\ss.Perm (intKeys D0)/\
   w'.ownsRow w.heap.size t 1 v ss.length ((ss.mergeSort leI).map encZ)/\(v=.slice none 0 0↔ss=[])/\Go.RowKit.Below w.heap.size w w'
section
variable {P:Program} {ρ:Ren} {st st':St} {w w':World} {v:CV}
def br.below (h:WR ρ st w)(hb:Go.RowKit.Below w.heap.size w w'):br ρ st w ρ st w':=
 ⟨⟨λb blk r sz h1 h2=>by
  obtain⟨o,e2,e3⟩:=h.at' b blk r sz h1 h2;exact⟨o,by rw[hb.block r (aFB.1 e2).1];exact e2,e3⟩,h.inj,h.fresh⟩,λ_ _ h=>h,λ_ _ h=>h,aEQ _,λb blk _ sz h1 h2=>.inl ⟨b,blk,sz,h1,h2⟩,
   λr hr _=>hb.block r hr,hb.size,hb.os,hb.output⟩
def br.later (h:WR ρ st w)(hb:Go.RowKit.Below w.heap.size w w'){g:Nat}{o:Obj}{blk:qB}(hg:w.heap.size<=g)(ho:w'.heap[g]?=some o)(TF:BR (ρ.set st.nx (g,sz)) blk o sz):
 br ρ st w (ρ.set st.nx (g,sz)) (st.new blk) w':=by
 have hA:=(br.below h hb).trans (br.adQ (br.below h hb).wr blk)
 have hn:ρ st.nx=none:=by
  cases hh:ρ st.nx with
  |none=>rfl
  |some x=>have:=h.fresh _ x hh;omega
 have hle:ρ.le (ρ.set st.nx (g,sz)):=λq x hx=>by rw[Ren.dA _ _ _ _ (λe=>by rw[e,hn]at hx;cases hx)];exact hx
 have iL:∀q b2,q≠st.nx->(st.new blk).m.g q=some b2->st.m.g q=some b2:=λq b2 hq h1=>by simpa[St.new,PT.dv _ _ _ _ hq]using h1
 have CQ:∀q b2 r s,st.m.g q=some b2->ρ q=some (r,s)->r<w.heap.size:=λq b2 r s h1 h2=>by
  obtain⟨o,e2,_⟩:=h.at' q b2 r s h1 h2;exact(aFB.1 e2).1
 have hor:∀q b2 r s,(st.new blk).m.g q=some b2->ρ.set st.nx (g,sz) q=some (r,s)->(∃b0 blk0 DC,st.m.g b0=some blk0/\ρ b0=some (r,DC))\/w.heap.size<=r:=λq b2 r s h1 h2=>by
  by_cases e:q=st.nx
  .subst e;rw[Ren.eN]at h2;cases h2;exact .inr hg
  .rw[Ren.dA _ _ _ _ e]at h2;exact hA.origin q b2 r s h1 h2
 refine⟨⟨λq b2 r s h1 h2=>?_,λq q' b1 b2 r s s' h1 h2 h3 h4=>?_,λq x hx=>?_⟩,hle,λq hq hr=>?_,hA.nx,hor,hA.kept,hb.size,hb.os,hb.output⟩
 .by_cases e:q=st.nx
  .subst e;simp only[St.new,PT.dn,aGp]at h1;subst h1;rw[Ren.eN]at h2;cases h2;exact⟨o,ho,TF⟩
  .rw[Ren.dA _ _ _ _ e]at h2;obtain⟨o',e2,e3⟩:=hA.wr.at' q b2 r s h1 h2;exact⟨o',e2,e3.mono hle⟩
 .by_cases e:q=st.nx
  .by_cases e':q'=st.nx
   .rw[e,e']
   .rw[e,Ren.eN]at h3;cases h3;rw[Ren.dA _ _ _ _ e']at h4;have:=CQ q' b2 _ _ (iL q' b2 e' h2) h4;omega
  .by_cases e':q'=st.nx
   .rw[e',Ren.eN]at h4;cases h4;rw[Ren.dA _ _ _ _ e]at h3;have:=CQ q b1 _ _ (iL q b1 e h1) h3;omega
   .rw[Ren.dA _ _ _ _ e]at h3;rw[Ren.dA _ _ _ _ e']at h4;exact h.inj q q' b1 b2 r s s' (iL q b1 e h1) (iL q' b2 e' h2) h3 h4
 .show q<st.nx+1
  by_cases e:q=st.nx
  .omega
  .rw[Ren.dA _ _ _ _ e]at hx;have:=h.fresh q x hx;omega
 .rw[Ren.dA _ _ _ _ (λe=>by rw[e]at hq;omega)];exact hr
def PN (l:List Int):eK ρ (l.map I) (l.map encZ):=by
 induction l with
 |nil=>exact eK.nil ρ
 |cons x l ih=>exact eK.cons (.int _ _) ih
def LY {b:Nat}{r:Nat}(hw:WR ρ st w)(he:nG (st.m.g b) es)(hk:iG es)(hr:ρ b=some (r,sz)):
 ∃(es':List MapEntry) (clock:Nat) (pl:List eS),w.heap[r]?=some (.map es'.toArray clock)/\pl.Perm es/\pl.length=es'.length/\
  (∀(i:Nat) (e:eS) (e':MapEntry),pl[i]?=some e->es'[i]?=some e'->VR ρ e.1 e'.key/\VR ρ e.2.1 e'.val)/\(∀x∈es',x.born<clock)/\(es'.map (·.born)).Nodup:=by
 unfold nG at he
 split at he
 .rename_i es0 clock hm;obtain⟨rfl,b1,b2⟩:=he;obtain⟨es',h1,h2,h3⟩:=hw.map hm hr
  have hbm:es'.map (·.born)=es0.map (·.2.2):=by
   apply aHi;intro i;rw[aFA,aFA];rcases aGh i es'.length with hlt|oN
   .rw[aES hlt,aES qE];have:=(h3 i es0[i] es'[i] (aES qE) (aES hlt)).2.2;simp[this]
   .have aad:es0.length<=i:=by omega
    rw[aFQ oN,aFQ aad];rfl
  refine⟨es',clock,es0,h1,List.Perm.refl _,h2,λi e e' g1 g2=>⟨(h3 i e e' g1 g2).1,(h3 i e e' g1 g2).2.1⟩,λx hx=>?_,by rw[hbm];exact b2⟩;have:x.born∈es'.map (·.born):=aFX hx;rw[hbm,aFq]at this;obtain⟨e,he,Oy⟩:=this;rw[<-Oy];exact b1 e he
 .rename_i es0 hm;subst he;obtain⟨pl,clock,es',h1,h2,h3,h4,h5,h6,h7⟩:=hw.lmap hm hr;exact⟨es',clock,pl,h1,h2,h6,h7,λx hx=>h5.1 x O5,by simpa using h5.2.1⟩
 .exact he.elim
def Bz (hf:Ks P f K t){bb mb:Nat}{ty:TypeId}{g:Bool}(hk:iG es)
 (XM:st.m.g bb=some (.cells [.map mb] ty g)) (he:nG (st.m.g mb) es) (h:wa t es st=.ok v st'):
 Lim.ia P f=true/\E9 P f [.func (.func K) [] [.ptr bb 0]] st v st':=by
 refine⟨hf.ia,?_⟩;intro ρ w args' hw ha;obtain⟨x',t',e1,hx,Fj⟩:=ha.inv;have e3:t'=[]:=by have:=Fj.len;simpa using this.symm
 subst e3;have e4:args'= #[x']:=acG
 subst e4;obtain⟨pP,afP,AM⟩:=hk;cases hx with
 |func _ _ _ f' c' g1 g2 g3 g4=>
  have XE:f'=[]:=by have:(0:Nat)=f'.length:=g1;exact aFi.1 this.symm
  subst XE;obtain⟨p',rest,rfl,hp,CP⟩:=(eK.mk (ρ:=ρ) g2 g4).inv;have rM:=aFi.1 CP.len.symm;subst rM;cases hp with
  |ptr _ _ B zB hB=>
   obtain⟨c,lo,hi,a1,a2,a3,a4,a5⟩:=hw.row XM hB
   obtain⟨m',G9,Tz⟩:∃m',(c.toList.take 1)[0]?=some m'/\VR ρ (.map mb) m':=by
    have hl:=a4.len;obtain⟨m',tt,q1,q2,_⟩:=a4.inv;exact⟨m',by rw[show(1:Nat)=[CV.map mb].length from rfl,q1];rfl,q2⟩
   cases Tz with
   |map _ r sz hr=>
    obtain⟨es',clock,pl,b1,b2,b3,b4,b5,b6⟩:=LY hw he ⟨pP,afP,AM⟩ hr
    have sU:w.cell? ⟨B,0,none⟩=some (.map (some r)):=by
     have:c.toList[0]?=some (.map (some r)):=by
      rw[aGE]at G9
      split at G9
      .exact G9
      .cases G9
     simp only[World.cell?,a1];simpa using this
    have hBl:=(aFB.1 a1).1
    have lL:∀i (fk:i<es'.length),∃(hlt:i<pl.length) (a:Int),pl[i].1=.int .i64 a/\es'[i].key=.int .i64 a/\0<=a/\a<=9223372036854775807:=by
     intro i fk;have hlt:i<pl.length:=qE
     have hv:=(b4 i pl[i] _ (aES hlt) (aES fk)).1;obtain⟨a,k2,k3,k4⟩:=pP _ (b2.mem_iff.1 (aFj hlt));rw[k2]at hv;exact⟨hlt,a,k2,vC hv,k3,k4⟩
    have Hf:∀x∈es',∃a:Int,x.key=.int .i64 a/\0<=a/\a<=9223372036854775807:=by
     intro x hx;obtain⟨i,fk,rfl⟩:=aFP hx;obtain⟨_,a,_,k2,k3,k4⟩:=lL i fk;exact⟨a,k2,k3,k4⟩
    have Xp:(es'.map λx=>(match x.key with| .int _ a=>a|_=>0)).Perm (jr es):=by
     have h1:es'.map (λx=>(match x.key with| .int _ a=>a|_=>0))=jr pl:=by
      unfold jr;apply aHi;intro i;rw[aFA,aFA];rcases aGh i es'.length with hlt|oN
      .obtain⟨JV,a,k1,k2,_⟩:=lL i hlt;rw[aES hlt,aES JV];simp[k1,k2]
      .have aad:pl.length<=i:=by omega
       rw[aFQ oN,aFQ aad];rfl
     rw[h1];exact b2.map _
    have rO:(es'.map (·.key)).Nodup:=by
     have hn:=Xp.nodup_iff.2 afP;unfold List.Nodup at hn⊢;rw[aGR]at hn⊢;exact hn.imp λtN e=>tN (by rw[e])
    have hst:Go.MapKept.Stamped es'.toArray clock:=⟨λx hx=>b5 x O5,by simpa using b6,by simpa using rO⟩;have hlen:es'.length=es.length:=by rw[<-b3,b2.length_eq]
    have hko:∀x∈es',∃a:Int,x.key=.int .i64 a/\Go.keyOf P t x.key=some (.int .i64 a):=by
     intro x hx;obtain⟨a,RJ,Fj,VB⟩:=Hf x hx;refine⟨a,RJ,?_⟩;unfold Go.keyOf mapKey;rw[hf.und,RJ];have m1:IntKind.i64.min= -9223372036854775808:=u7
     have m2:IntKind.i64.max=9223372036854775807:=u7
     simp[Lit.wf,m1,m2];omega
    have BS:∀x∈es',∃y,Go.WideElems.rd P t (λ_=>some ((.nil:DataW Unit),([]:List MemPlace))) x=some y:=by
     intro x hx;obtain⟨a,_,h2⟩:=hko x hx;exact⟨(.int .i64 a,.nil),by simp[Go.WideElems.rd,h2]⟩
    have yS:w.ownsMap P t (λ_=>some ((.nil:DataW Unit),([]:List MemPlace))) r es'.length (.map ((es'.toArray.toList.map (Go.WideElems.rg P t λ_=>some ((.nil:DataW Unit),([]:List MemPlace)))).foldr DataW.insert [])):=
     ⟨es'.toArray,clock,b1,⟨by show es'.toArray.size<=maxLen;simp only[aHh,maxLen];omega,hst,λx hx=>BS x O5⟩,uG,rfl⟩
    have ng:Maps.size (H:=Unit) (.map ((es'.toArray.toList.map (Go.WideElems.rg P t λ_=>some ((.nil:DataW Unit),([]:List MemPlace)))).foldr DataW.insert []))=es'.length:=by
     show(List.foldr (DataW.insert (H:=Unit)) _ _).length=_;rw[Go.length_sorted];simp
    have Rl:(intKeys (H:=Unit) (.map ((es'.toArray.toList.map (Go.WideElems.rg P t λ_=>some ((.nil:DataW Unit),([]:List MemPlace)))).foldr DataW.insert []))).Perm (jr es):=by
     refine(List.Perm.map _ (Go.WideShapes.sorted_perm _)).trans ?_;rw[aHl]
     have:es'.toArray.toList.map ((λp=>intOf p.1)∘Go.WideElems.rg P t λ_=>some ((.nil:DataW Unit),([]:List MemPlace)))=es'.map λx=>(match x.key with| .int _ a=>a|_=>0):=by
      apply List.map_congr_left;intro x hx;obtain⟨a,RJ,h2⟩:=hko x hx;rw[RJ]at h2;simp[Go.WideElems.rg,Go.WideElems.rd,h2,RJ,intOf]
     rw[this];exact Xp
    refine(hf.out B r es'.length _ _ w sU hBl yS (by rw[ng];simp only[maxLen];omega) (by rw[ng];omega)).mono ?_;rintro e w' ⟨v',ss,rfl,hss,gG,JT,uy⟩;have LF:=hss.trans Rl;have CR:ss.mergeSort leI=oV (jr es):=mergeSort_of_perm_i LF;have lq:ss.length=es.length:=by rw[LF.length_eq];simp[jr]
    unfold wa at h
    split at h
    .rename_i h0;cases h;subst h0;have ZE:=aFi.1 (by rw[lq];rfl);have:=JT.2 ZE;subst this;exact⟨_,ρ,rfl,.ae,br.below hw uy⟩
    .rename_i h0;cases h;have h0':=aGX.2 h0;rcases gG.2 with⟨q1,q2⟩|⟨gg,cap,cur,q1,q2,q3,q4,q5,q6,q7⟩
     .have:=q2;omega
     .rw[CR]at q7
      have hsz:((oV (jr es)).map I).length=ss.length:=by
       rw[<-CR,aFK,List.length_mergeSort]
      have hiv:eK (ρ.set st.nx (gg,cur.size)) ((oV (jr es)).map I) (cur.toList.take ((oV (jr es)).map I).length):=by
       rw[hsz,show ss.length=ss.length*1 from(aGB _).symm,q7];exact PN _
      have TF:=BR.cells (ρ:=ρ.set st.nx (gg,cur.size)) ((oV (jr es)).map I) t true cur 0 0 (by rw[hsz,q6];omega) hiv qE (λhh=>by cases hh);have hA:=br.later hw uy q2 q3 TF;refine⟨v',_,rfl,?_,hA⟩;rw[q1,lq];exact .nU _ 0 0 _ _ cap 1 gg cur.size (Ren.eN _ _ _) qE (aEQ _) qE (λ_=>rfl) qE
def FK (hf:Ks P f K t){args:List CV}(h:FL K t args st=some (.ok v st')):rD P f args st v st':=by
 left;unfold FL at h
 split at h
 .rename_i k bb
  split at h
  .rename_i mb ty g XM
   split at h
   .rename_i hc;obtain⟨rfl,h2,h3⟩:=hc;exact Bz hf h3 XM h2 (aHj h)
   .cases h
  .cases h
 .cases h
end
end
