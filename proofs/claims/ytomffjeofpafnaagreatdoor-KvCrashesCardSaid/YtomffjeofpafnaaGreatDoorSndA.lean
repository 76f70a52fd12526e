import Derived.Test.YtomffjeofpafnaaGreatDoorLimJ
import Derived.Lib.SlKeysI
import Derived.Shelf.SlIterI.Collect
namespace Lim
open Go Go.Sort
noncomputable section
set_option linter.defProp false
section
variable {sz:Nat}{es:List eK}{f K:Nat}{t:TypeId}
structure KX (P:Program)(f K:Nat)(t:TypeId):Prop where
 iq:iq P f=true
 und:P.underlying t=some (.int .i64)
 out:∀(B b nn:Nat) (D0:DataW Unit) (R:Value->Option (DataW Unit×List MemPlace)) (w:World),w.cell? ⟨B,0,none⟩=some (.map (some b))->B<w.heap.size->w.ownsMap P t R b nn D0->Maps.size D0<=maxLen->Maps.size D0*8<=140737488355328->
  Calls P f #[.func (.func K) #[] #[.pointer (some ⟨B,0,none⟩)]] w λe w'=>∃(v:Value) (ss:List Int),e=.returned v/\ss.Perm (intKeys D0)/\
   w'.ownsRow w.heap.size t 1 v ss.length ((ss.mergeSort leI).map encZ)/\(v=.slice none 0 0↔ss=[])/\Go.RowKit.Below w.heap.size w w'
section
variable {P:Program} {ρ:Ren} {st st':St} {w w':World} {v:CV}
def bp.below (h:WR ρ st w)(a:Go.RowKit.Below w.heap.size w w'):bp ρ st w ρ st w':=
 ⟨⟨λb blk r sz d c=>by
  obtain⟨o,e,i⟩:=h.at' b blk r sz d c;exact⟨o,by rw[a.block r (aIy.1 e).1];exact e,i⟩,h.inj,h.fresh⟩,λ_ _ h=>h,λ_ _ h=>h,aHK _,λb blk _ sz d c=>.inl ⟨b,blk,sz,d,c⟩,
   λr g _=>a.block r g,a.size,a.os,a.output⟩
def bp.later (h:WR ρ st w)(n:Go.RowKit.Below w.heap.size w w'){g:Nat}{o:Obj}{blk:rU}(I:w.heap.size<=g)(G:w'.heap[g]?=some o)(L:BR (ρ.set st.nx (g,sz)) blk o sz):
 bp ρ st w (ρ.set st.nx (g,sz)) (st.new blk) w':=by
 have u:=(bp.below h n).trans (bp.aeJ (bp.below h n).wr blk)
 have H:ρ st.nx=none:=by
  cases hh:ρ st.nx with
  |none=>rfl
  |some x=>have:=h.fresh _ x hh;omega
 have l:ρ.le (ρ.set st.nx (g,sz)):=λq x i=>by rw[Ren.dy _ _ _ _ (λe=>by rw[e,H]at i;cases i)];exact i
 have p:∀q a,q≠st.nx->(st.new blk).m.g q=some a->st.m.g q=some a:=λq a z c=>by simpa[St.new,PT.du _ _ _ _ z]using c
 have D:∀q a r s,st.m.g q=some a->ρ q=some (r,s)->r<w.heap.size:=λq a r s c b=>by
  obtain⟨o,B,_⟩:=h.at' q a r s c b;exact(aIy.1 B).1
 have A:∀q a r s,(st.new blk).m.g q=some a->ρ.set st.nx (g,sz) q=some (r,s)->(∃C blk0 M,st.m.g C=some blk0/\ρ C=some (r,M))\/w.heap.size<=r:=λq a r s c b=>by
  by_cases e:q=st.nx
  .subst e;rw[Ren.eI]at b;cases b;exact .inr I
  .rw[Ren.dy _ _ _ _ e]at b;exact u.origin q a r s c b
 refine⟨⟨λq a r s c b=>?_,λq d y a r s s' c b k j=>?_,λq x i=>?_⟩,l,λq z F=>?_,u.nx,A,u.kept,n.size,n.os,n.output⟩
 .by_cases e:q=st.nx
  .subst e;simp only[St.new,PT.dj,aJo]at c;subst c;rw[Ren.eI]at b;cases b;exact⟨o,G,L⟩
  .rw[Ren.dy _ _ _ _ e]at b;obtain⟨E,B,J⟩:=u.wr.at' q a r s c b;exact⟨E,B,J.mono l⟩
 .by_cases e:q=st.nx
  .by_cases e':d=st.nx
   .rw[e,e']
   .rw[e,Ren.eI]at k;cases k;rw[Ren.dy _ _ _ _ e']at j;have:=D d a _ _ (p d a e' b) j;omega
  .by_cases e':d=st.nx
   .rw[e',Ren.eI]at j;cases j;rw[Ren.dy _ _ _ _ e]at k;have:=D q y _ _ (p q y e c) k;omega
   .rw[Ren.dy _ _ _ _ e]at k;rw[Ren.dy _ _ _ _ e']at j;exact h.inj q d y a r s s' (p q y e c) (p d a e' b) k j
 .show q<st.nx+1
  by_cases e:q=st.nx
  .omega
  .rw[Ren.dy _ _ _ _ e]at i;have:=h.fresh q x i;omega
 .rw[Ren.dy _ _ _ _ (λe=>by rw[e]at z;omega)];exact F
def PO (l:List Int):eM ρ (l.map I) (l.map encZ):=by
 induction l with
 |nil=>exact eM.nil ρ
 |cons x l a=>exact eM.cons (.int _ _) a
def MC {b:Nat}{r:Nat}(s:WR ρ st w)(d:oe (st.m.g b) es)(H:iP es)(u:ρ b=some (r,sz)):
 ∃(es':List MapEntry) (a:Nat) (j:List eK),w.heap[r]?=some (.map es'.toArray a)/\j.Perm es/\j.length=es'.length/\
  (∀(i:Nat) (e:eK) (e':MapEntry),j[i]?=some e->es'[i]?=some e'->VR ρ e.1 e'.key/\VR ρ e.2.1 e'.val)/\(∀x∈es',x.born<a)/\(es'.map (·.born)).Nodup:=by
 unfold oe at d
 split at d
 .rename_i c a hm;obtain⟨rfl,F,E⟩:=d;obtain⟨es',p,o,n⟩:=s.map hm u
  have l:es'.map (·.born)=c.map (·.2.2):=by
   apply aJR;intro i;rw[aIu,aIu];rcases aIX i es'.length with k|B
   .rw[aHO k,aHO uM];have:=(n i c[i] es'[i] (aHO uM) (aHO k)).2.2;simp[this]
   .have q:c.length<=i:=by omega
    rw[aIN B,aIN q];rfl
  refine⟨es',a,c,p,List.Perm.refl _,o,λi e e' A z=>⟨(n i e e' A z).1,(n i e e' A z).2.1⟩,λx hx=>?_,by rw[l];exact E⟩;have:x.born∈es'.map (·.born):=aIW hx;rw[l,aIk]at this;obtain⟨e,d,G⟩:=this;rw[<-G];exact F e d
 .rename_i c hm;subst d;obtain⟨j,a,es',p,o,n,I,y,D,C⟩:=s.lmap hm u;exact⟨es',a,j,p,o,D,C,λx hx=>y.1 x Yx,by simpa using y.2.1⟩
 .exact d.elim
def BW (N:KX P f K t){bb z:Nat}{ty:TypeId}{g:Bool}(hk:iP es)
 (XQ:st.m.g bb=some (.cells [.map z] ty g)) (he:oe (st.m.g z) es) (h:wv t es st=.ok v st'):
 Lim.iq P f=true/\FM P f [.func (.func K) [] [.ptr bb 0]] st v st':=by
 refine⟨N.iq,?_⟩;intro ρ w args' A ha;obtain⟨x',t',e1,hx,FZ⟩:=ha.inv;have e3:t'=[]:=by have:=FZ.len;simpa using this.symm
 subst e3;have e4:args'= #[x']:=adt
 subst e4;obtain⟨W,q,yT⟩:=hk;cases hx with
 |func _ _ _ f' c' g1 g2 g3 g4=>
  have XH:f'=[]:=by have:(0:Nat)=f'.length:=g1;exact aIh.1 this.symm
  subst XH;obtain⟨p',U,rfl,hp,Mc⟩:=(eM.mk (ρ:=ρ) g2 g4).inv;have ua:=aIh.1 Mc.len.symm;subst ua;cases hp with
  |ptr _ _ B zB hB=>
   obtain⟨c,lo,hi,a1,a2,a3,a4,a5⟩:=A.row XQ hB
   obtain⟨m',E,OQ⟩:∃m',(c.toList.take 1)[0]?=some m'/\VR ρ (.map z) m':=by
    have hl:=a4.len;obtain⟨m',tt,u,l,_⟩:=a4.inv;exact⟨m',by rw[show(1:Nat)=[CV.map z].length from rfl,u];rfl,l⟩
   cases OQ with
   |map _ r sz hr=>
    obtain⟨es',clock,pl,b1,R,b3,b4,b5,b6⟩:=MC A he ⟨W,q,yT⟩ hr
    have tb:w.cell? ⟨B,0,none⟩=some (.map (some r)):=by
     have:c.toList[0]?=some (.map (some r)):=by
      rw[aJe]at E
      split at E
      .exact E
      .cases E
     simp only[World.cell?,a1];simpa using this
    have O:=(aIy.1 a1).1
    have Y:∀i (D:i<es'.length),∃(b:i<pl.length) (a:Int),pl[i].1=.int .i64 a/\es'[i].key=.int .i64 a/\0<=a/\a<=9223372036854775807:=by
     intro i D;have b:i<pl.length:=uM
     have hv:=(b4 i pl[i] _ (aHO b) (aHO D)).1;obtain⟨a,j,G,F⟩:=W _ (R.mem_iff.1 (aIc b));rw[j]at hv;exact⟨b,a,j,vJ hv,G,F⟩
    have HP:∀x∈es',∃a:Int,x.key=.int .i64 a/\0<=a/\a<=9223372036854775807:=by
     intro x hx;obtain⟨i,D,rfl⟩:=aIM hx;obtain⟨_,a,_,j,G,F⟩:=Y i D;exact⟨a,j,G,F⟩
    have Xu:(es'.map λx=>(match x.key with| .int _ a=>a|_=>0)).Perm (jA es):=by
     have h1:es'.map (λx=>(match x.key with| .int _ a=>a|_=>0))=jA pl:=by
      unfold jA;apply aJR;intro i;rw[aIu,aIu];rcases aIX i es'.length with b|ov
      .obtain⟨Fb,a,k1,j,_⟩:=Y i b;rw[aHO b,aHO Fb];simp[k1,j]
      .have S:pl.length<=i:=by omega
       rw[aIN ov,aIN S];rfl
     rw[h1];exact R.map _
    have rE:(es'.map (·.key)).Nodup:=by
     have hn:=Xu.nodup_iff.2 q;unfold List.Nodup at hn⊢;rw[aJT]at hn⊢;exact hn.imp λuZ e=>uZ (by rw[e])
    have J:Go.MapKept.Stamped es'.toArray clock:=⟨λx hx=>b5 x Yx,by simpa using b6,by simpa using rE⟩;have aa:es'.length=es.length:=by rw[<-b3,R.length_eq]
    have o:∀x∈es',∃a:Int,x.key=.int .i64 a/\Go.keyOf P t x.key=some (.int .i64 a):=by
     intro x hx;obtain⟨a,s,FZ,VH⟩:=HP x hx;refine⟨a,s,?_⟩;unfold Go.keyOf mapKey;rw[N.und,s];have m1:IntKind.i64.min= -9223372036854775808:=xI
     have m2:IntKind.i64.max=9223372036854775807:=xI
     simp[Lit.wf,m1,m2];omega
    have Cp:∀x∈es',∃y,Go.WideElems.rd P t (λ_=>some ((.nil:DataW Unit),([]:List MemPlace))) x=some y:=by
     intro x hx;obtain⟨a,_,C⟩:=o x hx;exact⟨(.int .i64 a,.nil),by simp[Go.WideElems.rd,C]⟩
    have w9:w.ownsMap P t (λ_=>some ((.nil:DataW Unit),([]:List MemPlace))) r es'.length (.map ((es'.toArray.toList.map (Go.WideElems.rg P t λ_=>some ((.nil:DataW Unit),([]:List MemPlace)))).foldr DataW.insert [])):=
     ⟨es'.toArray,clock,b1,⟨by show es'.toArray.size<=maxLen;simp only[aKp,maxLen];omega,J,λx hx=>Cp x Yx⟩,wb,rfl⟩
    have X:Maps.size (H:=Unit) (.map ((es'.toArray.toList.map (Go.WideElems.rg P t λ_=>some ((.nil:DataW Unit),([]:List MemPlace)))).foldr DataW.insert []))=es'.length:=by
     show(List.foldr (DataW.insert (H:=Unit)) _ _).length=_;rw[Go.length_sorted];simp
    have Rk:(intKeys (H:=Unit) (.map ((es'.toArray.toList.map (Go.WideElems.rg P t λ_=>some ((.nil:DataW Unit),([]:List MemPlace)))).foldr DataW.insert []))).Perm (jA es):=by
     refine(List.Perm.map _ (Go.WideShapes.sorted_perm _)).trans ?_;rw[aKs]
     have:es'.toArray.toList.map ((λp=>intOf p.1)∘Go.WideElems.rg P t λ_=>some ((.nil:DataW Unit),([]:List MemPlace)))=es'.map λx=>(match x.key with| .int _ a=>a|_=>0):=by
      apply List.map_congr_left;intro x hx;obtain⟨a,s,C⟩:=o x hx;rw[s]at C;simp[Go.WideElems.rg,Go.WideElems.rd,C,s,intOf]
     rw[this];exact Xu
    refine(N.out B r es'.length _ _ w tb O w9 (by rw[X];simp only[maxLen];omega) (by rw[X];omega)).mono ?_;rintro e w' ⟨v',k,rfl,L,jT,Kt,T⟩;have Me:=L.trans Rk;have A2:k.mergeSort leI=pI (jA es):=mergeSort_of_perm_i Me;have Z:k.length=es.length:=by rw[Me.length_eq];simp[jA]
    unfold wv at h
    split at h
    .rename_i h0;cases h;subst h0;have Xn:=aIh.1 (by rw[Z];rfl);have:=Kt.2 Xn;subst this;exact⟨_,ρ,rfl,.ae,bp.below A T⟩
    .rename_i h0;cases h;have ab:=aJu.2 h0;rcases jT.2 with⟨u,l⟩|⟨Q,cap,d,u,l,q3,q4,q5,q6,V⟩
     .have:=l;omega
     .rw[A2]at V
      have n:((pI (jA es)).map I).length=k.length:=by
       rw[<-A2,aIx,List.length_mergeSort]
      have M:eM (ρ.set st.nx (Q,d.size)) ((pI (jA es)).map I) (d.toList.take ((pI (jA es)).map I).length):=by
       rw[n,show k.length=k.length*1 from(aJr _).symm,V];exact PO _
      have Ty:=BR.cells (ρ:=ρ.set st.nx (Q,d.size)) ((pI (jA es)).map I) t true d 0 0 (by rw[n,q6];omega) M uM (λhh=>by cases hh);have hA:=bp.later A T l q3 Ty;refine⟨v',_,rfl,?_,hA⟩;rw[u,Z];exact .oI _ 0 0 _ _ cap 1 Q d.size (Ren.eI _ _ _) uM (aHK _) uM (λ_=>rfl) uM
def Gs (a:KX P f K t){args:List CV}(h:Gt K t args st=some (.ok v st')):uw P f args st v st':=by
 left;unfold Gt at h
 split at h
 .rename_i k i
  split at h
  .rename_i e ty g d
   split at h
   .rename_i hc;obtain⟨rfl,c,b⟩:=hc;exact BW a b d c (aJX h)
   .cases h
  .cases h
 .cases h
end
end
