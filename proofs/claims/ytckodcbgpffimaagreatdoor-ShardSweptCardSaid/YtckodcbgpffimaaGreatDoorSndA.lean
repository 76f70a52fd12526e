import Derived.Test.YtckodcbgpffimaaGreatDoorLimJ
import Derived.Lib.SlKeysI
import Derived.Shelf.SlIterI.Collect
namespace Lim
open Go Go.Sort
noncomputable section
set_option linter.defProp false
section
variable {sz:Nat}{es:δ fh}{f Kq0:Nat}{t:TypeId}
structure MM (P:Program)(f Kq0:Nat)(t:TypeId):Prop where
 iP:iP P f=true
 und:P.underlying t=some (.int .i64)
 out:∀(Bq0 b nn:Nat) (D0:DataW Unit) (Rq0:Value->Option (DataW Unit×List MemPlace)) (w:World),w.cell? ⟨Bq0,0,none⟩=some (.map (some b))->Bq0<w.heap.size->w.ownsMap P t Rq0 b nn D0->Maps.size D0<=maxLen->Maps.size D0*8<=140737488355328->
  Calls P f #[.func (.func Kq0) #[] #[.pointer (some ⟨Bq0,0,none⟩)]] w λe w'=>∃(v:Value) (ss:List Int),e=.returned v/\ss.Perm (intKeys D0)/\
   w'.ownsRow w.heap.size t 1 v ss.length ((ss.mergeSort leI).map encZ)/\(v=.slice none 0 0↔ss=[])/\Go.RowKit.Below w.heap.size w w'
section
variable {P:Program} {ρ:Ren} {Z Z':O} {w w':World} {v:K}
def br.below (h:WR ρ Z w)(a:Go.RowKit.Below w.heap.size w w'):br ρ Z w ρ Z w':=
 ⟨⟨λb blk r sz d c=>by
  obtain⟨o,e,i⟩:=h.at' b blk r sz d c;exact⟨o,by rw[a.block r (IH.1 e).1];exact e,i⟩,h.inj,h.fresh⟩,λ_ _ h=>h,λ_ _ h=>h,hI _,λb blk _ sz d c=>.inl ⟨b,blk,sz,d,c⟩,
   λr g _=>a.block r g,a.size,a.os,a.output⟩
def br.later (h:WR ρ Z w)(n:Go.RowKit.Below w.heap.size w w'){g:Nat}{o:Obj}{blk:tp}(N:w.heap.size<=g)(L:w'.heap[g]?=Φ o)(S:BR (ρ.set Z.nx (g,sz)) blk o sz):
 br ρ Z w (ρ.set Z.nx (g,sz)) (Z.new blk) w':=by
 have u:=(br.below h n).trans (br.ahx (br.below h n).wr blk)
 have M:ρ Z.nx=ν:=by
  cases hh:ρ Z.nx with
  |none=>rfl
  |some x=>have:=h.fresh _ x hh;omega
 have l:ρ.le (ρ.set Z.nx (g,sz)):=λq x i=>by rw[Ren.dF _ _ _ _ (λe=>by rw[e,M]at i;cases i)];exact i
 have p:∀q a,q≠Z.nx->(Z.new blk).m.g q=Φ a->Z.m.g q=Φ a:=λq a z c=>by simpa[O.new,PT.dy _ _ _ _ z]using c
 have G:∀q a r s,Z.m.g q=Φ a->ρ q=Φ (r,s)->r<w.heap.size:=λq a r s c b=>by
  obtain⟨o,D,_⟩:=h.at' q a r s c b;exact(IH.1 D).1
 have C:∀q a r s,(Z.new blk).m.g q=Φ a->ρ.set Z.nx (g,sz) q=Φ (r,s)->(∃F blk0 T,Z.m.g F=Φ blk0/\ρ F=Φ (r,T))\/w.heap.size<=r:=λq a r s c b=>by
  by_cases e:q=Z.nx
  .subst e;rw[Ren.eZ]at b;cases b;exact .inr N
  .rw[Ren.dF _ _ _ _ e]at b;exact u.origin q a r s c b
 refine⟨⟨λq a r s c b=>?_,λq d y a r s s' c b k j=>?_,λq x i=>?_⟩,l,λq z I=>?_,u.nx,C,u.kept,n.size,n.os,n.output⟩
 .by_cases e:q=Z.nx
  .subst e;simp only[O.new,PT.du,S2]at c;subst c;rw[Ren.eZ]at b;cases b;exact⟨o,L,S⟩
  .rw[Ren.dF _ _ _ _ e]at b;obtain⟨H,D,Q⟩:=u.wr.at' q a r s c b;exact⟨H,D,Q.mono l⟩
 .by_cases e:q=Z.nx
  .by_cases e':d=Z.nx
   .rw[e,e']
   .rw[e,Ren.eZ]at k;cases k;rw[Ren.dF _ _ _ _ e']at j;have:=G d a _ _ (p d a e' b) j;omega
  .by_cases e':d=Z.nx
   .rw[e',Ren.eZ]at j;cases j;rw[Ren.dF _ _ _ _ e]at k;have:=G q y _ _ (p q y e c) k;omega
   .rw[Ren.dF _ _ _ _ e]at k;rw[Ren.dF _ _ _ _ e']at j;exact h.inj q d y a r s s' (p q y e c) (p d a e' b) k j
 .show q<Z.nx+1
  by_cases e:q=Z.nx
  .omega
  .rw[Ren.dF _ _ _ _ e]at i;have:=h.fresh q x i;omega
 .rw[Ren.dF _ _ _ _ (λe=>by rw[e]at z;omega)];exact I
def RE (l:δ Int):fp ρ (l.map I) (l.map encZ):=by
 induction l with
 |nil=>exact fp.nil ρ
 |cons x l a=>exact fp.cons (.int _ _) a
def Oc {b:Nat}{r:Nat}(s:WR ρ Z w)(d:pI (Z.m.g b) es)(M:jC es)(u:ρ b=Φ (r,sz)):
 ∃(es':δ MapEntry) (a:Nat) (j:δ fh),w.heap[r]?=Φ (.map es'.toArray a)/\j.Perm es/\j.length=es'.length/\
  (∀(i:Nat) (e:fh) (e':MapEntry),j[i]?=Φ e->es'[i]?=Φ e'->VR ρ e.1 e'.key/\VR ρ e.2.1 e'.val)/\(∀x∈es',x.born<a)/\(es'.map (·.born)).Nodup:=by
 unfold pI at d
 split at d
 .rename_i c a hm;obtain⟨rfl,I,H⟩:=d;obtain⟨es',p,o,n⟩:=s.map hm u
  have l:es'.map (·.born)=c.map (·.2.2):=by
   apply aNF;intro i;rw[ul,ul];rcases wl i es'.length with k|D
   .rw[li k,li J];have:=(n i c[i] es'[i] (li J) (li k)).2.2;simp[this]
   .have q:c.length<=i:=by omega
    rw[In D,In q];rfl
  refine⟨es',a,c,p,List.Perm.refl _,o,λi e e' C z=>⟨(n i e e' C z).1,(n i e e' C z).2.1⟩,λx hx=>?_,by rw[l];exact H⟩;have:x.born∈es'.map (·.born):=Ey hx;rw[l,lm]at this;obtain⟨e,d,L⟩:=this;rw[<-L];exact I e d
 .rename_i c hm;subst d;obtain⟨j,a,es',p,o,n,N,y,G,F⟩:=s.lmap hm u;exact⟨es',a,j,p,o,G,F,λx hx=>y.1 x J8,by simpa using y.2.1⟩
 .exact d.elim
def C0 (W:MM P f Kq0 t){bb C:Nat}{ty:TypeId}{g:Bool}(hk:jC es)
 (ZQ:Z.m.g bb=Φ (.cells [.map C] ty g)) (he:pI (Z.m.g C) es) (h:xR t es Z=.ok v Z'):
 Lim.iP P f=θ/\GS P f [.func (.func Kq0) [] [.ptr bb 0]] Z v Z':=by
 refine⟨W.iP,?_⟩;intro ρ w args' D ha;obtain⟨x',t',e1,hx,Hi⟩:=ha.inv;have e3:t'=[]:=by have:=Hi.len;simpa using this.symm
 subst e3;have e4:args'= #[x']:=aeP
 subst e4;obtain⟨qA,s,BS⟩:=hk;cases hx with
 |func _ _ _ f' c' g1 g2 g3 g4=>
  have ZF:f'=[]:=by have:(0:Nat)=f'.length:=g1;exact sS.1 this.symm
  subst ZF;obtain⟨p',ab,rfl,hp,NH⟩:=(fp.mk (ρ:=ρ) g2 g4).inv;have vq:=sS.1 NH.len.symm;subst vq;cases hp with
  |ptr _ _ Bq0 zB hB=>
   obtain⟨c,lo,hi,a1,a2,a3,a4,a5⟩:=D.row ZQ hB
   obtain⟨n,L,Ve⟩:∃n,(c.toList.take 1)[0]?=Φ n/\VR ρ (.map C) n:=by
    have hl:=a4.len;obtain⟨n,tt,z,l,_⟩:=a4.inv;exact⟨n,by rw[show(1:Nat)=[K.map C].length from rfl,z];rfl,l⟩
   cases Ve with
   |map _ r sz hr=>
    obtain⟨es',clock,pl,b1,b2,b3,b4,b5,b6⟩:=Oc D he ⟨qA,s,BS⟩ hr
    have iw:w.cell? ⟨Bq0,0,ν⟩=Φ (.map (Φ r)):=by
     have:c.toList[0]?=Φ (.map (Φ r)):=by
      rw[ý]at L
      split at L
      .exact L
      .cases L
     simp only[World.cell?,a1];simpa using this
    have X:=(IH.1 a1).1
    have mz:∀i (G:i<es'.length),∃(b:i<pl.length) (a:Int),pl[i].1=.int .i64 a/\es'[i].key=.int .i64 a/\0<=a/\a<=9223372036854775807:=by
     intro i G;have b:i<pl.length:=J
     have hv:=(b4 i pl[i] _ (li b) (li G)).1;obtain⟨a,j,N,M⟩:=qA _ (b2.mem_iff.1 (mp b));rw[j]at hv;exact⟨b,a,j,xe hv,N,M⟩
    have Dn:∀x∈es',∃a:Int,x.key=.int .i64 a/\0<=a/\a<=9223372036854775807:=by
     intro x hx;obtain⟨i,G,rfl⟩:=Di hx;obtain⟨_,a,_,j,N,M⟩:=mz i G;exact⟨a,j,N,M⟩
    have Zt:(es'.map λx=>(match x.key with| .int _ a=>a|_=>0)).Perm (ko es):=by
     have h1:es'.map (λx=>(match x.key with| .int _ a=>a|_=>0))=ko pl:=by
      unfold ko;apply aNF;intro i;rw[ul,ul];rcases wl i es'.length with b|tE
      .obtain⟨SS,a,k1,j,_⟩:=mz i b;rw[li b,li SS];simp[k1,j]
      .have aa:pl.length<=i:=by omega
       rw[In tE,In aa];rfl
     rw[h1];exact b2.map _
    have uB:(es'.map (·.key)).Nodup:=by
     have hn:=Zt.nodup_iff.2 s;unfold List.Nodup at hn⊢;rw[ú]at hn⊢;exact hn.imp λvx e=>vx NL
    have Q:Go.MapKept.Stamped es'.toArray clock:=⟨λx hx=>b5 x J8,by simpa using b6,by simpa using uB⟩;have ac:es'.length=es.length:=by rw[<-b3,b2.length_eq]
    have q:∀x∈es',∃a:Int,x.key=.int .i64 a/\Go.keyOf P t x.key=Φ (.int .i64 a):=by
     intro x hx;obtain⟨a,u,Hi,XC⟩:=Dn x hx;refine⟨a,u,?_⟩;unfold Go.keyOf mapKey;rw[W.und,u];have m1:IntKind.i64.min= -9223372036854775808:=tW
     have m2:IntKind.i64.max=9223372036854775807:=tW
     simp[Lit.wf,m1,m2];omega
    have IU:∀x∈es',∃y,Go.WideElems.rd P t (λ_=>Φ ((.nil:DataW Unit),([]:δ MemPlace))) x=Φ y:=by
     intro x hx;obtain⟨a,_,F⟩:=q x hx;exact⟨(.int .i64 a,.nil),by simp[Go.WideElems.rd,F]⟩
    have qz:w.ownsMap P t (λ_=>Φ ((.nil:DataW Unit),([]:δ MemPlace))) r es'.length (.map ((es'.toArray.toList.map (Go.WideElems.rg P t λ_=>Φ ((.nil:DataW Unit),([]:δ MemPlace)))).foldr DataW.insert [])):=
     ⟨es'.toArray,clock,b1,⟨by show es'.toArray.size<=maxLen;simp only[aNE,maxLen];omega,Q,λx hx=>IU x J8⟩,V,rfl⟩
    have pe:Maps.size (H:=Unit) (.map ((es'.toArray.toList.map (Go.WideElems.rg P t λ_=>Φ ((.nil:DataW Unit),([]:δ MemPlace)))).foldr DataW.insert []))=es'.length:=by
     show(List.foldr (DataW.insert (H:=Unit)) _ _).length=_;rw[Go.length_sorted];simp
    have Tc:(intKeys (H:=Unit) (.map ((es'.toArray.toList.map (Go.WideElems.rg P t λ_=>Φ ((.nil:DataW Unit),([]:δ MemPlace)))).foldr DataW.insert []))).Perm (ko es):=by
     refine(List.Perm.map _ (Go.WideShapes.sorted_perm _)).trans ?_;rw[Xf]
     have:es'.toArray.toList.map ((λp=>intOf p.1)∘Go.WideElems.rg P t λ_=>Φ ((.nil:DataW Unit),([]:δ MemPlace)))=es'.map λx=>(match x.key with| .int _ a=>a|_=>0):=by
      apply List.map_congr_left;intro x hx;obtain⟨a,u,F⟩:=q x hx;rw[u]at F;simp[Go.WideElems.rg,Go.WideElems.rd,F,u,intOf]
     rw[this];exact Zt
    refine(W.out Bq0 r es'.length _ _ w iw X qz (by rw[pe];simp only[maxLen];omega) (by rw[pe];omega)).mono ?_;rintro e w' ⟨v',k,rfl,S,jV,BN,vu⟩;have NJ:=S.trans Tc;have Me:k.mergeSort leI=qH (ko es):=mergeSort_of_perm_i NJ;have lP:k.length=es.length:=by rw[NJ.length_eq];simp[ko]
    unfold xR at h
    split at h
    .rename_i h0;cases h;subst h0;have Zg:=sS.1 (by rw[lP];rfl);have:=BN.2 Zg;subst this;exact⟨_,ρ,rfl,.ae,br.below D vu⟩
    .rename_i h0;cases h;have ad:=TK.2 h0;rcases jV.2 with⟨z,l⟩|⟨Y,cap,d,z,l,q3,q4,q5,q6,q7⟩
     .have:=l;omega
     .rw[Me]at q7
      have o:((qH (ko es)).map I).length=k.length:=by
       rw[<-Me,so,List.length_mergeSort]
      have T:fp (ρ.set Z.nx (Y,d.size)) ((qH (ko es)).map I) (d.toList.take ((qH (ko es)).map I).length):=by
       rw[o,show k.length=k.length*1 from(Fi _).symm,q7];exact RE _
      have Vk:=BR.cells (ρ:=ρ.set Z.nx (Y,d.size)) ((qH (ko es)).map I) t θ d 0 0 (by rw[o,q6];omega) T J (λhh=>by cases hh);have hA:=br.later D vu l q3 Vk;refine⟨v',_,rfl,?_,hA⟩;rw[z,lP];exact .pX _ 0 0 _ _ cap 1 Y d.size (Ren.eZ ..) J (hI _) J (λ_=>rfl) J
def HB (a:MM P f Kq0 t){args:δ K}(h:HC Kq0 t args Z=Φ (.ok v Z')):vP P f args Z v Z':=by
 left;unfold HC at h
 split at h
 .rename_i k i
  split at h
  .rename_i e ty g d
   split at h
   .rename_i hc;obtain⟨rfl,c,b⟩:=hc;exact C0 a b d c (Â h)
   .cases h
  .cases h
 .cases h
end
end
