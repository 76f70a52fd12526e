import Derived.Test.YtckodcbgpffimaaGreatDoorLimD
import Derived.Orders
namespace Lim
open Go
noncomputable section
set_option linter.defProp false
section
variable {fr fr':Fr}{call:gZ}{op:BinOp}{k:IntKind}{a:Int}
abbrev alO (p q:Nat):Bool:=Nat.beq p q
def JH {p q:Nat}:alO p q=θ↔p=q:=by rw[md]
def zh (x:υ fy):δ fy:=match x with|some x=>[x]|none=>[]
def DE.args:DE->δ fy
 | .YI x| .nil x| .un _ x| .conv _ x| .KH _ x| .iface _ x| .fieldAddr _ x| .field _ _ _ x| .extract x _| .len _ x| .clear _ x| .box _ x| .Iz x| .Bt _ x=>[x]
 | .pick c a b=>[c,a,b]
 | .new _ _=>[]
 | .build _ ps=>ps.map (·.2.2)
 | .buildSlice _ _ _ ps=>ps.map (·.2.2)
 | .store _ a x| .bin _ _ _ a x| .xg _ _ a x| .BD _ a x| .xf a x| .xh _ _ _ a x| .lookup _ _ _ a x| .mapEntry _ _ a x| .append _ _ _ _ _ a x| .copy _ _ a x| .ur _ a x| .delete _ a x=>[a,x]
 | .func _ f c=>f++c
 | .mkMap r=>zh r
 | .mkSlice _ _ _ l c=>[l,c]
 | .pW x lo hi| .sK _ x lo hi| .pY _ _ x lo hi=>x::(zh lo++zh hi)
 | .slice3 _ x lo hi mx=>x::hi::mx::zh lo
 | .mapUpdate _ m k x| .entryStore m k x=>[m,k,x]
 | .call _ args=>args
 | .EK f args=>f::args
def vE :∀{l:δ fy},(∀x∈l,ev fr x=ev fr' x)->Ob fr l=Ob fr' l:=by
 intro l
 induction l with
 |nil=>intro _;rfl
 |cons x l b=>
  intro h;show ev fr x::Ob fr l=ev fr' x::Ob fr' l;rw[h x V,b λy c=>h y (by simp[c])]
def EC :∀{l:δ wF},(∀x∈l.map (·.2.2),ev fr x=ev fr' x)->P8 fr l=P8 fr' l:=by
 intro l
 induction l with
 |nil=>intro _;rfl
 |cons p l c=>
  intro h;show(p.1,p.2.1,ev fr p.2.2)::P8 fr l=(p.1,p.2.1,ev fr' p.2.2)::P8 fr' l;rw[h p.2.2 V,c λy b=>h y (by simp at b⊢;exact .inr b)]
def vD {x:υ fy}(h:∀y∈zh x,ev fr y=ev fr' y):TT fr x=TT fr' x:=by
 cases x with
 |none=>rfl
 |some x=>show Φ (ev fr x)=Φ (ev fr' x);rw[h x (by simp[zh])]
def HN {op:DE}{Z:O}(h:∀x∈op.args,ev fr x=ev fr' x):dn call op fr Z=dn call op fr' Z:=by
 cases op<;>simp only[DE.args,ip,lh,wn,PP,forall_eq_or_imp,forall_eq]at h<;>simp only[dn]
 all_goals first
  |rfl
  |rw[h]
  |rw[h.1,h.2]
  |rw[h.1,h.2.1,h.2.2]
  |rw[vE h]
  |rw[EC h]
  |rw[vD h]
  |rw[h.1,vE h.2]
  |rw[vE λx b=>h x (.inl b),vE λx b=>h x (.inr b)]
  |rw[h.1,vD λx b=>h.2 x (.inl b),vD λx b=>h.2 x (.inr b)]
  |rw[h.1,h.2.1,h.2.2.1,vD h.2.2.2]
def DE.still:DE->Bool
 | .YI _| .pick .. | .Iz _| .Bt .. | .nil _| .un .. | .KH .. | .iface .. | .func .. | .pW .. | .sK .. | .slice3 .. | .pY .. | .fieldAddr .. | .field .. =>θ
 | .xg .. | .BD .. | .xf .. | .xh .. | .lookup .. | .extract .. | .len .. | .ur .. | .bin .. | .build .. =>θ
 | .conv c _=>(match c with| .bytesOf _=>φ|_=>θ)
 |_=>φ
structure Still (Z:O)(r:OR):Prop where
 eq:∀v Z',r=.ok v Z'->Z'=Z
section
variable {Z:O}
def Still.bad:Still Z .bad:=⟨λ_ _ h=>by cases h⟩
def Still.ok (v:K):Still Z (.ok v Z):=⟨λ_ _ h=>by cases h;rfl⟩
def Still.bF {b:Bool}{x y:OR}(d:Still Z x)(c:Still Z y):Still Z (bF b x y):=by cases b;exact c;exact d
def Still.opt {b:Type}{x:υ b}{n:OR}{f:b->OR}(c:Still Z n)(h:∀v,Still Z (f v)):Still Z (Option.rec (motive:=λ_=>OR) n f x):=by cases x;exact c;exact h _
end
def Still.acf {Z:O}{b:Int}:Still Z (mY op k a b Z):=by
 cases op<;>simp only[mY]<;>first|exact Still.ok _|exact Still.bad|(split<;>first|exact Still.ok _|exact Still.bad)
def Still.int {Z:O}{j:IntKind}{b:Int}:Still Z (lb op k a j b Z):=by
 cases op<;>simp only[lb]<;>split<;>first|exact Still.ok _|exact Still.bad|exact Still.acf
def Still.str {Z:O}{a b:δ Γ}:Still Z (sO op a b Z):=by
 cases op<;>simp only[sO]<;>first|exact Still.ok _|exact Still.bad|(split<;>first|exact Still.ok _|exact Still.bad)
def Still.bin {Z:O}{d:υ lB}{b:Bool}{x y:K}:Still Z (R op d b x y Z):=by
 unfold R
 split<;>first
  |exact Still.int
  |exact Still.str
  |exact Still.bad
  |(unfold yb;split<;>first|exact Still.bad|exact Still.bF Still.bad (Still.ok _))
  |(split
    .unfold È;split<;>first|exact Still.ok _|exact Still.bad
    .exact Still.bad)
def uh {op:DE}{Z:O}(h:op.still=θ):Still Z (dn call op fr Z):=by
 cases op with
 |YI x=>exact Still.ok _
 |pick c a b=>simp only[dn];unfold bg;split<;>first|exact Still.bF (Still.ok _) (Still.ok _)|exact Still.bad
 |Iz x=>simp only[dn];unfold aw;split<;>first|(split<;>first|exact Still.opt Still.bad (λ_=>Still.ok _)|exact Still.bad)|exact Still.bad
 |Bt n x=>simp only[dn];unfold aF;split<;>first|(split<;>first|exact Still.opt Still.bad (λ_=>Still.ok _)|exact Still.bad)|exact Still.bad
 |nil x=>simp only[dn];unfold df;split<;>first|exact Still.ok _|exact Still.bad
 |bin op d CQ x y=>exact Still.bin
 |un op x=>simp only[dn];unfold kZ;split<;>first|exact Still.ok _|exact Still.bad|(split<;>first|exact Still.ok _|exact Still.bad)
 |conv c x=>simp only[dn];unfold cX;split<;>first|exact Still.ok _|exact Still.bad|(cases h;done)|(split<;>first|exact Still.bad|(split<;>first|exact Still.ok _|exact Still.bad))
 |KH n x=>simp only[dn];unfold qL;split<;>first|exact Still.bF (Still.ok _) Still.bad|exact Still.bad
 |iface t x=>exact Still.ok _
 |func fn f c=>exact Still.ok _
 |pW x lo hi=>simp only[dn];unfold gj;split<;>first|exact Still.bad|(split<;>first|exact Still.ok _|exact Still.bad)
 |sK size x lo hi=>
  simp only[dn];unfold aQ;split
  .split<;>first|exact Still.ok _|exact Still.bad
  .refine Still.bF ?_ Still.bad
   split
   .exact Still.bF (Still.ok _) (Still.bF (Still.ok _) Still.bad)
   .exact Still.bad
  .exact Still.bad
 |slice3 size x lo hi mx=>
  simp only[dn];unfold jK;split
  .split
   .split
    .exact Still.bF (Still.bF (Still.ok _) (Still.ok _)) Still.bad
    .exact Still.bad
   .exact Still.bad
  .split
   .split<;>first|exact Still.ok _|exact Still.bad
   .exact Still.bad
  .exact Still.bad
 |pY n size x lo hi=>simp only[dn];unfold cD;split<;>first|exact Still.bad|(split<;>first|exact Still.bad|exact Still.bF (Still.ok _) (Still.ok _))
 |fieldAddr off x=>simp only[dn];unfold aj;split<;>first|exact Still.ok _|exact Still.bad
 |field agg off size x=>simp only[dn];unfold zf;split<;>first|exact Still.opt Still.bad (λ_=>Still.ok _)|exact Still.bad
 |xg n size x i=>simp only[dn];unfold gE;split<;>first|exact Still.bF (Still.ok _) Still.bad|exact Still.bad
 |BD size x i=>simp only[dn];unfold de;split<;>first|exact Still.bF (Still.ok _) Still.bad|exact Still.bad
 |xf x i=>simp only[dn];unfold nJ;split<;>first|exact Still.bad|(split<;>first|exact Still.ok _|exact Still.bad)
 |xh n size agg x i=>simp only[dn];unfold xZ;split<;>first|exact Still.bF (Still.opt Still.bad (λ_=>Still.ok _)) Still.bad|exact Still.bad
 |lookup d z ok x k=>
  simp only[dn];unfold jk;refine Still.bF ?_ Still.bad
  split
  .unfold xY;split<;>first|exact Still.bad|(split<;>exact Still.bF (Still.ok _) (Still.ok _))
  .split
   .split<;>first|exact Still.bad|exact Still.bF (Still.ok _) (Still.ok _)
   .exact Still.bad
 |extract x i=>simp only[dn];unfold az;split<;>first|exact Still.opt Still.bad (λ_=>Still.ok _)|exact Still.bad
 |len k x=>simp only[dn];unfold aY;split<;>first|exact Still.ok _|exact Still.bad|exact Still.bF (Still.ok _) (Still.ok _)|(split<;>first|exact Still.ok _|exact Still.bad)
 |ur mx x y=>simp only[dn];unfold Bk;split<;>first|exact Still.bF (Still.ok _) Still.bad|exact Still.bad
 |build z parts=>simp only[dn];unfold aR;exact Still.opt Still.bad (λ_=>Still.ok _)
 |_=>cases h
end
section
variable {o:Oper}{e:Nat}{z:δ K}{ps:δ wF}{ρ0:Ren}{qy M:O}{w0:World}{s:δ K}{t:TypeId}{ops:Array Oper}
def qd (P:Program)(o:Oper):υ (TypeId×δ K):=
 match o.op with
 | .alloc t=>(match P.info? t with|some i=>(match AP i with|some z=>Φ (t,z)|none=>ν)|none=>ν)
 |_=>ν
def ma (P:Program)(o:Oper):υ (Nat×Nat×δ K×δ wF):=
 match o.op with
 | .buildSlice t len parts=>(match P.underlying t with
   |some (.slice e)=>(match P.info? e with
    |some i=>bF (Nat.ble (Nat.mul len i.size) 16777216) (match AP i,uN (oP i.size) parts.toList with|some z,some ps=>Φ (e,len,z,ps)|_,_=>ν) ν
    |none=>ν)
   |_=>ν)
 |_=>ν
def rW (P:Program)(o:Oper):Bool:=Option.rec (motive:=λ_=>Bool) φ (λ_=>θ) (ma P o)
def eM (b:Nat)(e len:Nat)(z:δ K)(c:δ wa)(Z:O):OR:=
 Option.rec (motive:=λ_=>OR) (Option.rec .bad (λs=>.ok (.slice b 0 len len 0) ⟨Z.m.put b (Φ (.cells s e φ)),Z.nx⟩) (gY c z)) (λ_=>.bad) (Z.m.g b)
open Classical in
def jL (b:Nat)(z:List K)(t:TypeId)(Z:O):OR:=match Z.m.g b with|some (.cells s u _)=>if s=z/\u=t then .ok (.ptr b 0) Z else .bad|_=>.bad
def iM (P:Program)(call:gZ)(ops:Array Oper)(d:υ Nat)(o:Oper)(fr:Fr)(Z:O):OR:=
 match qd P o,d with
 |none,none=>nX P call ops o fr Z
 |some c,some b=>(match gD ops fr o with|some true=>jL b c.2 c.1 Z|some false=>.ok .undef Z|none=>.bad)
 |none,some b=>(match ma P o with
  |some x=>(match gD ops fr o with|some true=>eM b x.1 x.2.1 (cr x.2.1 x.2.2.1) (P8 fr x.2.2.2) Z|some false=>.ok .undef Z|none=>.bad)
  |none=>.bad)
 |_,_=>.bad
def oK (P:Program)(o:Oper):Bool:=match qd P o with|some _=>φ|none=>(match ma P o with|some _=>φ|none=>(match nE P o.op with|some op=>Bool.not op.still|none=>φ))
def LO {P:Program}{len:Nat}(h:ma P o=Φ (e,len,z,ps)):nE P o.op=Φ (.buildSlice e len z ps):=by
 unfold ma at h;unfold nE
 split at h
 .rename_i t l parts ho;rw[ho];dsimp only
  split at h
  .rename_i e' hu;rw[hu];dsimp only
   split at h
   .rename_i i hi;rw[hi];dsimp only;rw[aS]at h⊢
    split at h
    .rename_i hb;rw[gq hb]
     split at h
     .rename_i c rz b hp;cases h;rw[b,hp]
     .cases h
    .cases h
   .cases h
  .cases h
 .cases h
def zi {P:Program}(h:qd P o≠ν):ma P o=ν:=by
 unfold qd at h;unfold ma
 split at h
 .rename_i t ho;rw[ho]
 .exact absurd rfl h
section
variable {P:Program} {ρ:Ren} {Z Z':O} {w:World} {v:K} {fr:Fr} {a:Act} {call:gZ}
def br.ue {M2:O}(h:br ρ0 qy w0 ρ M w)(hm:∀q x,ρ q=Φ x->M2.m.g q=M.m.g q)(hn:M2.nx=M.nx):br ρ0 qy w0 ρ M2 w where
 wr:=⟨λb blk r sz h1 h2=>h.wr.at' b blk r sz (by rw[<-hm b _ h2];exact h1) h2,λb b' k k' r s s' h1 h2 h3 h4=>h.wr.inj b b' k k' r s s' (by rw[<-hm b _ h3];exact h1) (by rw[<-hm b' _ h4];exact h2) h3 h4,λb x hx=>by rw[hn];exact h.wr.fresh b x hx⟩
 ext:=h.ext
 Of:=h.Of
 nx:=by rw[hn];exact h.nx
 origin:=λb blk r sz h1 h2=>h.origin b blk r sz (by rw[<-hm b _ h2];exact h1) h2
 kept:=h.kept
 size:=h.size
 os:=h.os
 output:=h.output
def WR.sub {s:O}(h:WR ρ M w)(u:∀q x,ρ q=Φ x->s.m.g q=M.m.g q\/s.m.g q=ν)(p:s.nx=M.nx):WR ρ s w:=by
 have key:∀b blk x,s.m.g b=Φ blk->ρ b=Φ x->M.m.g b=Φ blk:=λb blk x c d=>by
  rcases u b x d with e|e
  .rw[<-e];exact c
  .rw[e]at c;cases c
 exact⟨λb blk r sz c d=>h.at' b blk r sz (key b blk _ c d) d,λb j k k' r z l c d i f=>h.inj b j k k' r z l (key b k _ c i) (key j k' _ d f) i f,λb x n=>by rw[p];exact h.fresh b x n⟩
def br.frame {M' s s':O}{n:Ren}{w':World}(h:WR ρ M w)(hn:s.nx=M.nx)(hm:∀q x,ρ q=Φ x->s.m.g q=M.m.g q\/s.m.g q=ν)(c:br ρ s w n s' w')(T:M'.nx=s'.nx)
 (L:∀q x,n q=Φ x->M'.m.g q=s'.m.g q\/((∃y,ρ q=Φ y)/\s.m.g q=ν/\M'.m.g q=M.m.g q)):br ρ M w n M' w':=by
 have Q:∀q blk r sz,M.m.g q=Φ blk->ρ q=Φ (r,sz)->r<w.heap.size:=λq blk r sz h1 d=>by
  obtain⟨o,j,_⟩:=h.at' q blk r sz h1 d;exact(IH.1 j).1
 have G:∀q blk x,s.m.g q=Φ blk->ρ q=Φ x->M.m.g q=Φ blk:=λq blk x h1 d=>by
  rcases hm q x d with e|e
  .rw[<-e];exact h1
  .rw[e]at h1;cases h1
 have N:∀b blk r sz,s'.m.g b=Φ blk->n b=Φ (r,sz)->∀q D I,s.m.g q=ν->M.m.g q=Φ D->ρ q=Φ (r,I)->False:=by
  intro b blk r sz h1 d q D I H C h5;rcases c.origin b blk r sz h1 d with⟨p,blk0,F,l,i⟩|g
  .have:=h.inj p q blk0 D r F I (G p blk0 _ l i) C i h5;subst this;rw[H]at l;cases l
  .have:=Q q D r I C h5;omega
 have aa:∀b blk r sz,M'.m.g b=Φ blk->n b=Φ (r,sz)->(∃p blk0 F,M.m.g p=Φ blk0/\ρ p=Φ (r,F))\/w.heap.size<=r:=λb blk r sz h1 d=>by
  rcases L b _ d with e|⟨⟨y,j⟩,X,e4⟩
  .rcases c.origin b blk r sz adf d with⟨p,blk0,F,l,i⟩|g
   .exact .inl ⟨p,blk0,F,G p blk0 _ l i,i⟩
   .exact .inr g
  .have:=c.ext b y j;rw[d]at this;cases this;exact .inl ⟨b,blk,sz,afe,j⟩
 have Dm:∀r:Nat,r<w.heap.size->(∀b blk sz,M.m.g b=Φ blk->ρ b≠Φ (r,sz))->w'.heap[r]?=w.heap[r]?:=λr S hk=>c.kept r S λb blk sz l i=>hk b blk sz (G b blk _ l i) i;refine⟨⟨λb blk r sz h1 d=>?_,λb u k k' r z Y h1 d H C=>?_,λb x hx=>by rw[T];exact c.wr.fresh b x hx⟩,c.ext,λq hq S=>c.Of q (by rw[hn];exact hq) S,by rw[T,<-hn];exact c.nx,λb blk r sz h1 d=>?_,λr S hk=>c.kept r S λb blk sz l i=>hk b blk sz (G b blk _ l i) i,c.size,c.os,c.output⟩
 .rcases L b _ d with e|⟨⟨y,j⟩,X,e4⟩
  .exact c.wr.at' b blk r sz adf d
  .have:=c.ext b y j;rw[d]at this;cases this;rw[e4]at h1;obtain⟨o,l,i⟩:=h.at' b blk r sz h1 j;refine⟨o,?_,i.mono c.ext⟩;rw[c.kept r (Q b blk r sz h1 j)]
   .exact l
   .intro u D I g3 g4;have:=h.inj u b D blk r I sz (G u D _ g3 g4) h1 g4 j;subst this;rw[X]at g3;cases g3
 .rcases L b _ H with e|⟨⟨y,j⟩,X,e4⟩
  .rcases L u _ C with f|⟨⟨y',W⟩,f3,f4⟩
   .exact c.wr.inj b u k k' r z Y adf (by rw[<-f];exact d) H C
   .have:=c.ext u y' W;rw[C]at this;cases this;exact absurd (N b k r z adf H u k' Y f3 (by rw[<-f4];exact d) W) id
  .have:=c.ext b y j;rw[H]at this;cases this;rcases L u _ C with f|⟨⟨y',W⟩,f3,f4⟩
   .exact absurd (N u k' r Y (by rw[<-f];exact d) C b k z X afe j) id
   .have:=c.ext u y' W;rw[C]at this;cases this;exact h.inj b u k k' r z Y afe (by rw[<-f4];exact d) j W
 .rcases L b _ d with e|⟨⟨y,j⟩,X,e4⟩
  .rcases c.origin b blk r sz adf d with⟨p,blk0,F,l,i⟩|g
   .exact .inl ⟨p,blk0,F,G p blk0 _ l i,i⟩
   .exact .inr g
  .have:=c.ext b y j;rw[d]at this;cases this;exact .inl ⟨b,blk,sz,afe,j⟩
def br.alM {b:Nat}{g:Bool}{l:δ Value}(d:br ρ0 qy w0 ρ M w)(S:M.m.g b=Φ (.cells s t g))(T:ρ b=ν)(F:b<M.nx)(G:fp ρ s l)(hN:qy.nx<=b):
 br ρ0 qy w0 (ρ.set b (w.heap.size,l.length)) M {w with heap:=w.heap.push (.cells l.toArray t)}:=by
 have y:=d.wr
 have k:ρ.le (ρ.set b (w.heap.size,l.length)):=λq x i=>by
  rw[Ren.dF _ _ _ _ (λe=>by subst e;rw[T]at i;cases i)];exact i
 have I:∀q blk r s,M.m.g q=Φ blk->ρ q=Φ (r,s)->r<w.heap.size:=λq blk r s f c=>by
  obtain⟨o,C,_⟩:=y.at' q blk r s f c;exact(IH.1 C).1
 have L:WR (ρ.set b (w.heap.size,l.length)) M {w with heap:=w.heap.push (.cells l.toArray t)}:=by
  refine⟨λq blk r sz f c=>?_,λq u blk H r sz Y f c p n=>?_,λq x i=>?_⟩
  .by_cases e:q=b
   .subst e;rw[Ren.eZ]at c;cases c;rw[S]at f;cases f;have j:s.length=l.length:=by rw[G.len]
    refine⟨.cells l.toArray t,V,?_⟩;have X:=BR.cells (ρ:=ρ.set q (w.heap.size,l.length)) s t g l.toArray 0 0 (by simp[j]) (by rw[j];simpa using G.mono k) J (by intros;omega)
    simpa using X
   .rw[Ren.dF _ _ _ _ e]at c;obtain⟨o,C,W⟩:=y.at' q blk r sz f c;refine⟨o,?_,W.mono k⟩;have:=(IH.1 C).1;show(w.heap.push _)[r]?=_;rw[aNM,B J];exact C
  .by_cases e:q=b
   .by_cases e':u=b
    .rw[e,e']
    .rw[e,Ren.eZ]at p;cases p;rw[Ren.dF _ _ _ _ e']at n;have:=I u H _ _ c n;omega
   .by_cases e':u=b
    .rw[e',Ren.eZ]at n;cases n;rw[Ren.dF _ _ _ _ e]at p;have:=I q blk _ _ f p;omega
    .rw[Ren.dF _ _ _ _ e]at p;rw[Ren.dF _ _ _ _ e']at n;exact y.inj q u blk H r sz Y f c p n
  .by_cases e:q=b
   .subst e;exact F
   .rw[Ren.dF _ _ _ _ e]at i;exact y.fresh q x i
 refine⟨L,λq x i=>k q x (d.ext q x i),λq Q D=>?_,d.nx,λq blk r sz f c=>?_,λr N D=>?_,?_,d.os,d.output⟩
 .rw[Ren.dF _ _ _ _ (λe=>by subst e;omega)];exact d.Of q Q D
 .by_cases e:q=b
  .subst e;rw[Ren.eZ]at c;cases c;exact .inr d.size
  .rw[Ren.dF _ _ _ _ e]at c;exact d.origin q blk r sz f c
 .show(w.heap.push _)[r]?=_;have:=d.size;rw[aNM,B J];exact d.kept r N D
 .show w0.heap.size<=(w.heap.push _).size;have:=d.size;rw[Array.size_push];omega
def Pn (h:qd P o=Φ (t,z)):∃l:δ Value,(∀ρ,fp ρ z l)/\
 ∀(f:Operand->Value) (w:World),(execOp f o).run P w=.ok (.value (.pointer (Φ ⟨w.heap.size,0,ν⟩))) {w with heap:=w.heap.push (.cells l.toArray t)}:=by
 unfold qd at h
 split at h
 .rename_i m ho
  split at h
  .rename_i i hi
   split at h
   .rename_i k g;cases h;obtain⟨b,d,j,c⟩:=kX g;refine⟨b.cells.toList,c,λf w=>?_⟩;unfold execOp;rw[ho];simp[Instr.alloc,zeroValue,typeInfo,hi,d,newVar]
    rfl
   .cases h
  .cases h
 .cases h
def P6 {i:TypeInfo}{len:Nat}{c:Value}{b:δ wa}{parts':Array (Nat×Value)}(m:gY b (cr len z)=Φ s)(f:c.cells.size=i.size)(j:∀ρ,fp ρ z c.cells.toList)(l:tk ρ (oP i.size) b parts'.toList):
 ∃g,Instr.fill (oP i.size) ((Array.range (len*i.size)).map (c.cells[·%c.cells.size]!)) parts'.toList=Φ g/\fp ρ s g.toList:=by
 have k:(List.replicate len c.cells.toList).flatten=((Array.range (len*i.size)).map (c.cells[·%c.cells.size]!)).toList:=by
  rw[<-f,ì,aNU];exact(rI c.cells len).symm
 have d:fp ρ (cr len z) ((Array.range (len*i.size)).map (c.cells[·%c.cells.size]!)).toList:=by
  rw[<-k];exact(j ρ).flatten len
 exact tb l m d
def Sq {len:Nat}(h:ma P o=some (e,len,z,ps))(y:FR ρ fr a.tmps)(u:gY (P8 fr ps) (cr len z)=some s):
 ∃l:List Value,fp ρ s l/\∀w,(execOp a.eval o).run P w=.ok (.value (.slice (some ⟨w.heap.size,0,none⟩) len len)) {w with heap:=w.heap.push (.cells l.toArray e)}:=by
 unfold ma at h
 split at h
 .rename_i t l parts ho
  split at h
  .rename_i e' hu
   split at h
   .rename_i i hi;simp only[aS,nR]at h
    split at h
    .rename_i hle
     split at h
     .rename_i I rz r hp;cases h;obtain⟨f,n,m,j⟩:=kX r;have Zm:=pL hp y;obtain⟨q,d,D⟩:=P6 (parts':=parts.map λp=>(p.1,a.eval p.2)) u m j afs;refine⟨q.toList,D,λw=>?_⟩;have x:¬(len*i.size>2^24):=by have F:len*i.size<=16777216:=hle;show¬(len*i.size>16777216);omega
      have g:∀c:Array Value,(newRow e c).run P w=.ok ⟨w.heap.size,0,none⟩ {w with heap:=w.heap.push (.cells c e)}:=λc=>rfl
      have C:execOp a.eval o=(do let v<-Instr.buildSlice t len (parts.map λp=>(p.1,a.eval p.2));pure (.value v)):=by
       unfold execOp;rw[ho]
      have H:(λk=>some (k*i.size,i.size))=oP i.size:=rfl;rw[C,Ä];simp only[Instr.buildSlice,Sem.run_bind,kn hu,Result.andThen_ok,Go.sizeOf,typeInfo,run_program,hi,Sem.run_pure,B x]
      by_cases b:len*i.size=0
      .have G:((Array.range (len*i.size)).map (f.cells[·%f.cells.size]!))=((Array.range (len*i.size)).map ((#[]:Array Value)[·%(#[]:Array Value).size]!)):=by
        rw[b,Array.range_zero'];simp
       rw[G]at d;rw[gq b]
       show Result.andThen (Sem.run P (do
        let some cells:=Instr.fill (oP i.size) ((Array.range (len*i.size)).map ((#[]:Array Value)[·%(#[]:Array Value).size]!)) (parts.map λp=>(p.1,a.eval p.2)).toList|stuck "buildSlice: a part of the wrong size"
        pure (Value.slice (some (<-newRow e cells)) len len)) w) _=_
       rw[d];simp only[Sem.run_bind,g,Result.andThen_ok,Sem.run_pure]
      .rw[B b];simp only[zeroValue,typeInfo,Sem.run_bind,run_program,Result.andThen_ok,hi,n,Sem.run_pure];rw[H,d];simp only[Sem.run_bind,g,Result.andThen_ok,Sem.run_pure]
     .cases h
    .cases h
   .cases h
  .cases h
 .cases h
def CZ {b:Nat}{k:TypeId×δ K}(d:qd P o=Φ k)(h:iM P call ops (Φ b) o fr Z=.ok v Z')(G:M.m.g b=Z.m.g b)(y:br ρ0 qy w0 ρ M w)(p:FR ρ fr a.tmps)(r:ρ b=ν)(j:b<M.nx)(I:qy.nx<=b)
 {next:Act->World->Prop} {Q:Exit->Act->World->Prop} (n:∀v' w' c,VR c v v'->br ρ0 qy w0 c M w'->ρ.le c->(∀q,q≠b->c q=ρ q)->next (a.put o.dst v') w'):
 if Region.wanted o (yielded ops a.tmps)then o.wp P a w next Q else next (a.put o.dst undef) w:=by
 obtain⟨t,z⟩:=k;unfold iM at h;rw[d]at h;dsimp only at h
 split at h
 .rename_i f;rw[gq (jY f p)];unfold jL at h
  split at h
  .rename_i s u g C
   split at h
   .rename_i hh;obtain⟨rfl,rfl⟩:=hh;cases h;obtain⟨l,H,D⟩:=Pn d;unfold Oper.wp;rw[D];exact n _ _ _ (.ptr b 0 _ _ (Ren.eZ ρ b _)) (y.alM (by rw[G];exact C) r j (H ρ) I) (λq x i=>by rw[Ren.dF _ _ _ _ (λe=>by subst e;rw[r]at i;cases i)];exact i) (λq F=>Ren.dF _ _ _ _ F)
   .cases h
  .cases h
 .rename_i f;rw[B (by rw[jY f p];simp)];cases h;exact n _ w ρ .undef y (λ_ _ h=>h) λ_ _=>rfl
 .cases h
def xP {b:Nat}{x:Nat×Nat×δ K×δ wF}(d:ma P o=Φ x)(h:iM P call ops (Φ b) o fr Z=.ok v Z'):
 (gD ops fr o=Φ φ/\v=.undef/\Z'=Z)\/
 (gD ops fr o=Φ θ/\∃s,gY (P8 fr x.2.2.2) (cr x.2.1 x.2.2.1)=Φ s/\Z.m.g b=ν/\v=.slice b 0 x.2.1 x.2.1 0/\Z'=⟨Z.m.put b (Φ (.cells s x.1 φ)),Z.nx⟩):=by
 have f:qd P o=ν:=by
  cases hh:qd P o with
  |none=>rfl
  |some i=>have:=zi (P:=P) (o:=o) (by rw[hh];simp);rw[d]at this;cases this
 unfold iM at h;rw[f,d]at h;dsimp only at h
 split at h
 .rename_i c;unfold eM at h;cases hg:Z.m.g b with
  |some _=>rw[hg]at h;cases h
  |none=>
   rw[hg]at h;cases hf:gY (P8 fr x.2.2.2) (cr x.2.1 x.2.2.1)with
   |none=>rw[hf]at h;cases h
   |some s=>
    rw[hf]at h;dsimp only at h;cases h;exact .inr ⟨c,s,rfl,rfl,rfl,rfl⟩
 .rename_i c;cases h;exact .inl ⟨c,rfl,rfl⟩
 .cases h
def uc {c:υ Nat}(d:qd P o=ν)(f:ma P o=ν)(h:iM P call ops c o fr Z=.ok v Z'):c=ν/\nX P call ops o fr Z=.ok v Z':=by
 unfold iM at h;rw[d]at h;cases c with
 |none=>exact⟨rfl,h⟩
 |some b=>dsimp only at h;rw[f]at h;cases h
def CT {fr':Fr}(h:∀g b d,o.guard=Φ (g,b)->(ops[g]?).bind (·.dst)=Φ d->fZ fr (d)=fZ fr' (d)):gD ops fr o=gD ops fr' o:=by
 unfold gD;cases hg:o.guard with
 |none=>rfl
 |some f=>
  obtain⟨g,b⟩:=f;dsimp only;cases c:(ops[g]?).bind (·.dst)with
  |none=>rfl
  |some d=>dsimp only;rw[h g b d hg c]
end
def K0 {b:Type}(P:Program)(l:δ Oper):O->(δ (υ Nat)->O->b)->b:=
 List.rec (motive:=λ_=>O->(δ (υ Nat)->O->b)->b) (λZ k=>k [] Z)
  (λo _ f Z k=>Option.rec (Bool.rec (motive:=λ_=>b) (f Z λc Z=>k (ν::c) Z) (qT (Z.nx+1) λnx=>f ⟨Z.m,nx⟩ λc d=>k (Φ Z.nx::c) d) (rW P o))
   (λg=>qT (Z.nx+1) λnx=>qT ⟨Z.m.put Z.nx (Φ (.cells g.2 g.1 φ)),nx⟩ λi=>f i λc d=>k (Φ Z.nx::c) d) (qd P o)) l
structure wE (P:Program)(l:List Oper)(Z:O)(as:List (Option Nat))(iD:O):Prop where
 len:as.length=l.length
 nx:Z.nx<=iD.nx
 range:∀(i:Nat) (b:Nat),as[i]?=some (some b)->Z.nx<=b/\b<iD.nx
 uniq:∀(i j:Nat) (b:Nat),as[i]?=some (some b)->as[j]?=some (some b)->i=j
 after:∀ρ w,WR ρ Z w->br ρ Z w ρ iD w
 olds:∀(i:Nat) (o:Oper),l[i]?=some o->qd P o=none->rW P o=false->as[i]?=some none
 news:∀(i:Nat) (o:Oper),l[i]?=some o->qd P o≠none\/rW P o=true->∃b,as[i]?=some (some b)
def br.ahx {ρ:Ren}{Z:O}{w:World}(h:WR ρ Z w)(blk:tp):br ρ Z w ρ (Z.new blk) w:=by
 have p:ρ Z.nx=ν:=by
  cases hh:ρ Z.nx with
  |none=>rfl
  |some x=>have:=h.fresh _ x hh;omega
 have f:∀b fK x,(Z.new blk).m.g b=Φ fK->ρ b=Φ x->Z.m.g b=Φ fK:=λb fK x d c=>by
  have q:b≠Z.nx:=λe=>by rw[e,p]at c;cases c
  simpa[O.new,PT.dy _ _ _ _ q]using d
 refine⟨⟨λb fK r sz d c=>h.at' b fK r sz (f b fK _ d c) c,λb l k k' r s s' d c j i=>h.inj b l k k' r s s' (f b k _ d j) (f l k' _ c i) j i,λb x n=>?_⟩,λ_ _ h=>h,λ_ _ h=>h,?_,
  λb fK r sz d c=>.inl ⟨b,fK,sz,f b fK _ d c,c⟩,λ_ _ _=>rfl,hI _,rfl,rfl⟩
 .show b<(Z.nx+1);have:=h.fresh b x n;omega
 .show Z.nx<=(Z.nx+1);omega
def br.skip {ρ:Ren}{Z:O}{w:World}(h:WR ρ Z w):br ρ Z w ρ ⟨Z.m,(Z.nx+1)⟩ w:=
 ⟨⟨h.at',h.inj,λb x c=>by show b<(Z.nx+1);have:=h.fresh b x c;omega⟩,λ_ _ h=>h,λ_ _ h=>h,by show Z.nx<=(Z.nx+1);omega,
   λb g r sz f d=>.inl ⟨b,g,sz,f,d⟩,λ_ _ _=>rfl,hI _,rfl,rfl⟩
def wE.cons {P:Program}{l:δ Oper}{Z f:O}{n:δ (υ Nat)}(d:qd P o≠ν\/rW P o=θ){mem:PT tp}(c:wE P l ⟨mem,(Z.nx+1)⟩ n f)(r:∀ρ w,WR ρ Z w->br ρ Z w ρ ⟨mem,(Z.nx+1)⟩ w):wE P (o::l) Z (Φ Z.nx::n) f:=by
 have u:((Z.nx+1))=Z.nx+1:=rfl
 have m:∀(i:Nat) (b:Nat),n[i]?=Φ (Φ b)->Z.nx+1<=b/\b<f.nx:=λi b h=>by
  have:=c.range i b h;have e:(O.mk mem (Z.nx+1)).nx=Z.nx+1:=u;omega
 have x:Z.nx+1<=f.nx:=by have:=c.nx;have e:(O.mk mem (Z.nx+1)).nx=Z.nx+1:=u;omega
 refine⟨by simp[c.len],J,λi b h=>?_,λi j b h g=>?_,λρ w p=>(r ρ w p).trans (c.after ρ w (r ρ w p).wr),λi k h hh q=>?_,λi k h hh=>?_⟩
 .cases i with
  |zero=>simp at h;subst h;omega
  |succ i=>have:=m i b GU;omega
 .cases i with
  |zero=>
   cases j with
   |zero=>rfl
   |succ j=>simp at h;subst h;have:=m j _ (by simpa using g);omega
  |succ i=>cases j with
   |zero=>simp at g;subst g;have:=m i _ GU;omega
   |succ j=>rw[c.uniq i j b GU (by simpa using g)]
 .cases i with
  |zero=>simp at h;subst h;rcases d with d|d;exact absurd hh d;rw[q]at d;cases d
  |succ i=>exact c.olds i k GU hh q
 .cases i with
  |zero=>exact⟨_,rfl⟩
  |succ i=>exact c.news i k GU hh
def M8 {P:Program}:∀(l:δ Oper) (Z:O),∃c iD,wE P l Z c iD/\∀(f:Type) (k:δ (υ Nat)->O->f),K0 P l Z k=k c iD:=by
 intro l
 induction l with
 |nil=>intro Z;exact⟨[],Z,⟨rfl,hI _,λi b h=>Vu,λi j b h=>Vu,λρ w h=>br.refl h,λi o h=>Vu,λi o h=>Vu⟩,λf k=>rfl⟩
 |cons o l q=>
  intro Z
  have e:∀(f:Type) (k:δ (υ Nat)->O->f),K0 P (o::l) Z k=Option.rec (Bool.rec (motive:=λ_=>f) (K0 P l Z λc Z=>k (ν::c) Z) (qT (Z.nx+1) λnx=>K0 P l ⟨Z.m,nx⟩ λc n=>k (Φ Z.nx::c) n) (rW P o))
   (λg=>qT (Z.nx+1) λnx=>qT ⟨Z.m.put Z.nx (Φ (.cells g.2 g.1 φ)),nx⟩ λiD=>K0 P l iD λc n=>k (Φ Z.nx::c) n) (qd P o):=λf k=>rfl
  cases hn:qd P o with
  |none=>
   cases hb:rW P o with
   |false=>
    obtain⟨c,iD,d,p⟩:=q Z;refine⟨ν::c,iD,⟨by simp[d.len],d.nx,λi b h=>?_,λi j b h u=>?_,d.after,λi o h hh x=>by cases i with|zero=>rfl|succ i=>exact d.olds i o GU hh x,λi o h hh=>by cases i with|zero=>(simp at h;subst h;rcases hh with hh|hh;exact absurd hn hh;rw[hb]at hh;cases hh)|succ i=>exact d.news i o GU hh⟩,λf k=>by rw[e,hn,hb];exact p _ _⟩
    .cases i with
     |zero=>simp at h
     |succ i=>exact d.range i b GU
    .cases i with
     |zero=>simp at h
     |succ i=>cases j with
      |zero=>simp at u
      |succ j=>rw[d.uniq i j b GU (by simpa using u)]
   |true=>
    obtain⟨c,n,d,p⟩:=q ⟨Z.m,(Z.nx+1)⟩;exact⟨Φ Z.nx::c,n,d.cons (.inr hb) λρ w r=>br.skip r,λf k=>by rw[e,hn,hb];show qT (Z.nx+1) _=_;rw[dR];exact p _ _⟩
  |some g=>
   obtain⟨c,n,d,p⟩:=q (Z.new (.cells g.2 g.1 φ))
   exact⟨Φ Z.nx::c,n,wE.cons (mem:=Z.m.put Z.nx (Φ (.cells g.2 g.1 φ))) (.inl (by rw[hn];simp)) d λρ w r=>br.ahx r (.cells g.2 g.1 φ),λf k=>by
    rw[e,hn];show qT (Z.nx+1) _=_;rw[dR];rw[dR];exact p _ _⟩
end
section
variable {α:Type}{p:α->Bool}{o:Oper}{fr fr':Fr}{Z:O}{ab:υ Nat}{v:K}{k:Nat}
def GL {α:Type}(l:δ α)(p:α->Bool):Bool:=List.rec φ (λx _ r=>Bool.or (p x) r) l
def DB {α:Type}(l:δ α)(p:α->Bool):Bool:=List.rec θ (λx _ r=>Bool.and (p x) r) l
def Cq {l:δ α}:GL l p=θ↔∃x∈l,p x=θ:=by
 induction l with
 |nil=>simp[GL]
 |cons x l a=>
  have e:GL (x::l) p=Bool.or (p x) (GL l p):=rfl;rw[e];simp only[xF,a,ip,exists_eq_or_imp]
def qu {l:δ α}:DB l p=θ↔∀x∈l,p x=θ:=by
 induction l with
 |nil=>simp[DB]
 |cons x l a=>
  have e:DB (x::l) p=Bool.and (p x) (DB l p):=rfl;rw[e];simp only[mZ,a,ip,forall_eq_or_imp]
def PE {α:Type}(l:δ α):Nat->δ (Nat×α):=List.rec (motive:=λ_=>Nat->δ (Nat×α)) (λ_=>[]) (λx _ a i=>(i,x)::a (Nat.succ i)) l
def yx :∀{l:δ α} {i:Nat} {k:Nat} {x:α},l[k]?=Φ x->(i+k,x)∈PE l i:=by
 intro l
 induction l with
 |nil=>intro i k x h;simp at h
 |cons y l a=>
  intro i k x h;have e:PE (y::l) i=(i,y)::PE l (i+1):=rfl;rw[e];cases k with
  |zero=>simp at h;subst h;simp
  |succ k=>
   simp at h;have:=a (i:=i+1) h;rw[show i+(k+1)=i+1+k from J];exact EQ _ this
def sV (P:Program)(ops:Array Oper)(o:Oper):δ fy:=
 (match nE P o.op with|some op=>op.args|none=>[])++
 (match o.guard with|some (g,_)=>(match (ops[g]?).bind (·.dst)with|some d=>[fy.tmp (d)]|none=>[])|none=>[])
def gz (ops:Array Oper)(f:Nat):Nat->Nat->Bool:=
 Nat.rec (motive:=λ_=>Nat->Nat->Bool) (λ_ _=>φ) (λ_ a i j=>match ops[i]? with
  |none=>φ
  |some o=>GL o.after.toList λe=>Bool.and (Region.binds .any e) (qT e.on λk=>Bool.or (Nat.beq k j) (a k j))) f
section
variable {P:Program} {call:gZ} {ops:Array Oper}
def Hy (h:∀x∈sV P ops o,ev fr x=ev fr' x):nX P call ops o fr Z=nX P call ops o fr' Z:=by
 have c:gD ops fr o=gD ops fr' o:=by
  unfold gD;unfold sV at h;cases hg:o.guard with
  |none=>rfl
  |some i=>
   obtain⟨g,b⟩:=i;dsimp only;rw[hg]at h;dsimp only at h;cases e:(ops[g]?).bind (·.dst)with
   |none=>rfl
   |some d=>
    rw[e]at h;have f:fZ fr (d)=fZ fr' (d):=h (.tmp (d)) V;dsimp only;rw[f]
 unfold nX;rw[c]
 split
 .cases ho:nE P o.op with
  |none=>rfl
  |some op=>
   dsimp only;refine HN λx a=>h x ?_;unfold sV;rw[ho];simp[a]
 .rfl
 .rfl
def qF (h:∀x∈sV P ops o,ev fr x=ev fr' x):iM P call ops ab o fr Z=iM P call ops ab o fr' Z:=by
 have c:=CT λg b d f i=>
  h (.tmp (d)) (by unfold sV;rw[f];dsimp only;rw[i];simp)
 unfold iM;rw[Hy h,c];cases qd P o with
 |some j=>cases ab<;>rfl
 |none=>
  cases ab with
  |none=>rfl
  |some b=>
   dsimp only;cases hl:ma P o with
   |none=>rfl
   |some x=>
    obtain⟨e,len,z,ps⟩:=x;dsimp only;have hc:=LO hl;rw[EC (fr:=fr) (fr':=fr')];intro y a;refine h y ?_;unfold sV;rw[hc];exact À _ a
def SD (h:rW P o=φ):ma P o=ν:=by
 unfold rW at h;cases hl:ma P o with
 |none=>rfl
 |some x=>rw[hl]at h;cases h
def BB (h:rW P o=θ):∃x,ma P o=Φ x:=by
 unfold rW at h;cases hl:ma P o with
 |none=>rw[hl]at h;cases h
 |some x=>exact⟨x,rfl⟩
def W9 (h:rW P o=θ):qd P o=ν:=by
 obtain⟨x,a⟩:=BB h;cases hn:qd P o with
 |none=>rfl
 |some b=>have:=zi (P:=P) (o:=o) (by rw[hn];simp);rw[a]at this;cases this
def Ge (h:rW P o=θ):oK P o=φ:=by
 obtain⟨x,a⟩:=BB h;unfold oK;rw[W9 h,a]
def ua {Z':O}(a:oK P o=φ)(b:rW P o=φ)(h:iM P call ops ab o fr Z=.ok v Z'):Z'=Z:=by
 have hl:=SD b;unfold iM at h;unfold oK at a;rw[hl]at a h
 split at h
 .rename_i hn;rw[hn]at a;dsimp only at a;unfold nX at h
  split at h
  .split at h
   .rename_i op c;rw[c]at a;exact(uh (by simpa using a)).eq _ _ h
   .cases h
  .cases h;rfl
  .cases h
 .split at h
  .unfold jL at h
   split at h
   .split at h
    .cases h;rfl
    .cases h
   .cases h
  .cases h;rfl
  .cases h
 .cases h
 .cases h
def sC (a:Array Bool)(i:Nat):Prop:=a.getD i false=true
def Yp (ops:Array Oper)(a:Array Bool)(i:Nat):Prop:=∀o,ops[i]?=Φ o->∀e∈o.after,Region.binds .any e=θ->sC a e.on
def Cr {a:Array Bool}(b:∀i,sC a i->Yp ops a i):∀(f i j:Nat),gz ops f i j=θ->Yp ops a i->sC a j:=by
 intro f
 induction f with
 |zero=>intro i j h;cases h
 |succ f c=>
  intro i j h d
  have e:gz ops (f+1) i j=(match ops[i]? with
   |none=>φ
   |some o=>GL o.after.toList λe=>Bool.and (Region.binds .any e) (qT e.on λk=>Bool.or (Nat.beq k j) (gz ops f k j))):=rfl
  rw[e]at h
  split at h
  .cases h
  .rename_i o ho;rw[Cq]at h;obtain⟨x,hx,h⟩:=h;simp only[dR,mZ,xF,md]at h;have hl:=d o ho x J8 h.1;rcases h.2 with h2|h2
   .rw[<-h2];exact hl
   .exact c _ _ h2 (b _ hl)
end
structure TR where
 i:Nat
 ab:Option Nat
 o:Oper
 w:Bool
 c:Nat
 fr:Fr
 v:K
 s:O
 s1:O
def Ia (n:Nat)(a:υ Tmp)(v:K)(fr:Fr):υ Fr:=
 match a with
 |none=>Φ fr
 |some d=>bF (Nat.ble (Nat.succ d) n) (qT (fr.put (d) (Φ v)) Φ) ν
def DV {n:Nat}{a:υ Tmp}(h:Ia n a v fr=Φ fr'):(a=ν/\fr'=fr)\/∃d,a=Φ d/\d<n/\fr'=fr.put (d) (Φ v):=by
 unfold Ia at h
 split at h
 .cases h;exact .inl ⟨rfl,rfl⟩
 .rename_i d;simp only[aS,nR,aNY,dR]at h
  split at h
  .rename_i b;cases h;exact .inr ⟨d,rfl,b,rfl⟩
  .cases h
abbrev aeI:=δ TR×δ O×Fr×O
def tA (P:Program)(call:gZ)(n:Nat)(ops:Array Oper)(l:δ (Oper×υ Nat)):Nat->Nat->Fr->O->υ aeI:=
 List.rec (motive:=λ_=>Nat->Nat->Fr->O->υ aeI) (λ_ _ fr Z=>Φ ([],[],fr,Z)) (λo _ a i c fr Z=>
  OR.rec (λv Z'=>qT v λv=>qT Z' λZ'=>
   Option.rec ν (λfr'=>bF (oK P o.1)
    (Option.rec ν (λr=>Φ (⟨i,o.2,o.1,θ,c,fr,v,Z,Z'⟩::r.1,Z::r.2.1,r.2.2)) (a (Nat.succ i) (Nat.succ c) fr' Z'))
    (Option.rec ν (λr=>Φ (⟨i,o.2,o.1,φ,c,fr,v,Z,Z'⟩::r.1,r.2.1,r.2.2)) (a (Nat.succ i) c fr' Z'))) (Ia n o.1.dst v fr)) ν (iM P call ops o.2 o.1 fr Z)) l
def mu (b:δ TR)(a:O)(k:Nat):O:=match b[k]? with|some t=>t.s|none=>a
def FrP (l:δ Oper)(a:δ TR)(L:Nat->Prop)(b f:Fr):Prop:=
 (∀j o d t,L j->l[j]?=Φ o->o.dst=Φ d->a[j]?=Φ t->fZ f (d)=t.v)/\
 (∀p,(∀j o d,L j->l[j]?=Φ o->o.dst=Φ d->d≠p)->fZ f p=fZ b p)
def OD (l:δ Oper):Prop:=∀(j k:Nat) (a b:Oper) (d:Tmp),j<k->l[j]?=Φ a->l[k]?=Φ b->a.dst=Φ d->b.dst≠Φ d
def eu (P:Program)(l:δ Oper)(k:Nat):Nat:=(l.take k).countP (oK P)
section
variable {P:Program} {call:gZ} {n:Nat} {ops:Array Oper}
def qt {l:δ Oper}(h:l[k]?=Φ o):eu P l (k+1)=eu P l k+(if oK P o then 1 else 0):=by
 unfold eu;rw[List.take_add_one,h];simp[List.countP_append,List.countP_cons]
def yJ {l:δ Oper}:eu P (o::l) (k+1)=(if oK P o then 1 else 0)+eu P l k:=by
 unfold eu;rw[aNO,List.countP_cons];omega
def oI {l:δ Oper}{j:Nat}(h:j<=k):eu P l j<=eu P l k:=by
 unfold eu;have:l.take j=(l.take k).take j:=by rw[AQ,us h]
 rw[this];exact(List.take_sublist _ _).countP_le
def yI {l:δ Oper}:∀(k:Nat),k<=l.length->∀c,c<eu P l k->∃j o,j<k/\l[j]?=Φ o/\oK P o=θ/\eu P l j=c:=by
 intro k
 induction k with
 |zero=>intro _ c h;simp[eu]at h
 |succ k b=>
  intro g c h;have a:l[k]?=Φ l[k]:=V
  rw[qt a]at h
  by_cases d:c<eu P l k
  .obtain⟨j,o,h1,h2,f,e⟩:=b J c d;exact⟨j,o,J,h2,f,e⟩
  .have hw:oK P l[k]=θ:=by
    cases hh:oK P l[k]with
    |true=>rfl
    |false=>rw[hh]at h;simp at h;omega
   rw[hw]at h;simp only[ix]at h;exact⟨k,_,J,a,hw,J⟩
structure JR (L:List (Oper×Option Nat))(P:Program)(call:gZ)(n:Nat)(ops:Array Oper)(i c:Nat)(fr:Fr)(Z:O)(fA:List TR)(ch:List O)(Jl:Fr)(nf:O):Prop where
 len:fA.length=L.length
 at':∀k o ab,L[k]?=some (o,ab)->∃t,fA[k]?=some t/\t.i=i+k/\t.ab=ab/\t.o=o/\t.w=oK P o/\t.c=c+eu P (L.map (·.1)) k/\(∀d,o.dst=some d->d<n)/\FrP (L.map (·.1)) fA (·<k) fr t.fr/\
  iM P call ops ab o t.fr t.s=.ok t.v t.s1/\(oK P o=true->ch[eu P (L.map (·.1)) k]?=some t.s)
 fst:mu fA nf 0=Z
 sr:∀k t,fA[k]?=some t->t.s1=mu fA nf (k+1)
 fin:FrP (L.map (·.1)) fA (·<L.length) fr Jl
 chl:ch.length=eu P (L.map (·.1)) L.length
def FrP.cons {l:δ Oper}{s:δ TR}{r:TR}{q g f:Fr}(i:OD (o::l))(h:FrP l s (·<k) g f)(w:(o.dst=ν/\g=q)\/∃d,o.dst=Φ d/\d<n/\g=q.put (d) (Φ r.v)):
 FrP (o::l) (r::s) (·<k+1) q f:=by
 constructor
 .intro j b d t c h1 a m;cases j with
  |zero=>
   simp at h1 m;subst h1;subst m;rcases w with⟨e,_⟩|⟨u,e,_,rfl⟩
   .rw[a]at e;cases e
   .rw[a]at e;cases e;rw[h.2 (d),nO];intro j b u c y x e;subst e;exact i 0 (j+1) o b u J V (by simpa using y) a x
  |succ j=>exact h.1 j b d t (by have:=c;show j<k;omega) QM a (by simpa using m)
 .intro p hp;rw[h.2 p λj b d c h1 a=>hp (j+1) b d (by have:j<k:=c;show j+1<k+1;omega) QM a];rcases w with⟨_,rfl⟩|⟨d,e,_,rfl⟩
  .rfl
  .rw[oG];exact λe'=>hp 0 o d (by show 0<k+1;omega) V e e'.symm
def Ht:∀{L:δ (Oper×υ Nat)} {i c:Nat} {fr:Fr} {Z:O} {D:δ TR} {F:δ O} {G:Fr} {nf:O},tA P call n ops L i c fr Z=Φ (D,F,G,nf)->OD (L.map (·.1))->JR L P call n ops i c fr Z D F G nf:=by
 intro L
 induction L with
 |nil=>
  intro i c fr Z D F G nf h _;cases h;exact⟨rfl,λk o ab h=>Vu,rfl,λk t h=>Vu,⟨λj o d t _ h=>Vu,λp _=>rfl⟩,rfl⟩
 |cons W L S=>
  obtain⟨o,ab⟩:=W;intro i c fr Z D F G nf h l;rw[pw]at l
  have e:tA P call n ops ((o,ab)::L) i c fr Z=OR.rec (motive:=λ_=>υ aeI) (λv Z'=>qT v λv=>qT Z' λZ'=>
   Option.rec ν (λfr'=>bF (oK P o)
    (Option.rec ν (λr=>Φ (⟨i,ab,o,θ,c,fr,v,Z,Z'⟩::r.1,Z::r.2.1,r.2.2)) (tA P call n ops L (i+1) (c+1) fr' Z'))
    (Option.rec ν (λr=>Φ (⟨i,ab,o,φ,c,fr,v,Z,Z'⟩::r.1,r.2.1,r.2.2)) (tA P call n ops L (i+1) c fr' Z'))) (Ia n o.dst v fr)) ν (iM P call ops ab o fr Z):=rfl
  rw[e]at h;have x:OD (L.map (·.1)):=λj k a b d Y h1 h2=>l (j+1) (k+1) a b d J QM Vl;cases hs:iM P call ops ab o fr Z with
  |bad=>rw[hs]at h;cases h
  |ok v iD=>
   rw[hs]at h;simp only[dR,dR]at h;cases hp:Ia n o.dst v fr with
   |none=>rw[hp]at h;cases h
   |some H=>
    rw[hp]at h;simp only[aS]at h;have Q:=DV hp
    have ZH:∀d,o.dst=Φ d->d<n:=λd T=>by
     rcases Q with⟨e,_⟩|⟨d',e,h',_⟩
     .rw[T]at e;cases e
     .rw[T]at e;cases e;exact h'
    have key:∀(w:Bool) (C:δ TR) (f q:δ O) (y:Fr) (z:O),oK P o=w->JR L P call n ops (i+1) (c+if w then 1 else 0) H iD C f y z->q=(if w then Z::f else f)->
     JR ((o,ab)::L) P call n ops i c fr Z (⟨i,ab,o,w,c,fr,v,Z,iD⟩::C) q y z:=by
     intro w C f q y z g u s;refine⟨by simp[u.len],λk X N m=>?_,rfl,λk t m=>?_,by rw[pw];exact u.fin.cons l Q,?_⟩
     .rw[pw];cases k with
      |zero=>
       simp at m;obtain⟨rfl,rfl⟩:=m;refine⟨_,rfl,rfl,rfl,rfl,g.symm,rfl,ZH,⟨λj _ _ _ hj=>absurd hj (Nat.not_lt_zero _),λp _=>rfl⟩,hs,λhh=>?_⟩;rw[hh]at g;subst g;rw[s];rfl
      |succ k=>
       simp only[kc]at m;obtain⟨t,h1,h2,M,h3,h4,h5,h6,h7,h9,Mu⟩:=u.at' k X N m;refine⟨t,QM,J,M,h3,h4,?_,h6,h7.cons l Q,h9,λI=>?_⟩
       .rw[h5,yJ,g];omega
       .rw[yJ,g,s];have:=Mu I;cases w
        .simpa using this
        .simp only[ix];rw[æ 1];simpa using this
     .cases k with
      |zero=>
       simp at m;subst m;have:=u.fst;show iD=mu _ _ _;rw[<-this];unfold mu;simp
      |succ k=>
       have:=u.sr k t (by simpa using m);rw[this];unfold mu;simp
     .rw[pw,lx,yJ,g,s];have:=u.chl;cases w
      .simp[this]
      .simp[this];omega
    cases g:oK P o with
    |true=>
     rw[g]at h;simp only[ix]at h;cases ht:tA P call n ops L (i+1) (c+1) H iD with
     |none=>rw[ht]at h;cases h
     |some r=>
      obtain⟨C,f,y,z⟩:=r;rw[ht]at h;cases h;exact key θ _ _ _ _ _ g (S ht x) rfl
    |false=>
     rw[g]at h;simp only[pi,ii]at h;cases ht:tA P call n ops L (i+1) c H iD with
     |none=>rw[ht]at h;cases h
     |some r=>
      obtain⟨C,f,y,z⟩:=r;rw[ht]at h;cases h;exact key φ _ _ _ _ _ g (S ht x) rfl
end
end
section
variable {listed:Array Bool}{i j:Nat}{t:TR}{a:Act}{c:Nat}{ρ:Ren}{s M:O}
def EE (o:Oper)(p:Nat):Bool:=match o.dst with|some d=>alO (d) p|none=>φ
def Nq (ops:Array Oper)(i:Nat)(x:fy):Bool:=
 match x with| .const _=>θ| .tmp p=>DB (PE ops.toList 0) λb=>bF (EE b.2 p) (bF (Nat.ble (Nat.succ b.1) i) (gz ops ops.size i b.1) (Bool.and (Nat.ble (Nat.succ i) b.1) (gz ops ops.size b.1 i))) θ
def Lq (P:Program)(ops:Array Oper)(i:Nat)(o:Oper)(j:Nat)(b:Oper):Bool:=
 bF (Nat.ble (Nat.succ j) i) (Bool.and (match b.dst with|some d=>Bool.not (EE o (d))|none=>θ) (bF (Bool.and (oK P o) (oK P b)) (gz ops ops.size i j) θ)) θ
def Rj (P:Program)(ops:Array Oper):Bool:=
 DB (PE ops.toList 0) λb=>
  Bool.and (DB b.2.after.toList λe=>bF (Region.binds .any e) (Nat.ble (Nat.succ e.on) b.1) θ)
  (Bool.and (DB (sV P ops b.2) λx=>Nq ops b.1 x) (DB (PE ops.toList 0) λd=>Lq P ops b.1 b.2 d.1 d.2))
section
variable {P:Program} {call:gZ} {n:Nat} {ops:Array Oper}
structure EO (P:Program)(ops:Array Oper):Prop where
 s1:∀i o,ops.toList[i]?=some o->∀e∈o.after,Region.binds .any e=true->e.on<i
 s2:∀i o,ops.toList[i]?=some o->∀p,fy.tmp p∈sV P ops o->∀j oj d,ops.toList[j]?=some oj->oj.dst=some d->d=p->(j<i/\gz ops ops.size i j=true)\/(i<j/\gz ops ops.size j i=true)
 s3:OD ops.toList
 s4:∀i j o oj,ops.toList[i]?=some o->ops.toList[j]?=some oj->j<i->oK P o=true->oK P oj=true->gz ops ops.size i j=true
def Kx (h:Rj P ops=θ):EO P ops:=by
 unfold Rj at h;rw[qu]at h;have key:∀i o,ops.toList[i]?=Φ o->_:=λi o b=>h (i,o) (by have:=yx (i:=0) b;simpa using this);refine⟨λi o b e he w=>?_,λi o b p v j g d hj q l=>?_,λj i g o d r hj b q x=>?_,λi j o g b hj r u k=>?_⟩
 .have:=key i o b;simp only[mZ,qu]at this;have:=this.1 e õ;rw[w]at this
  simpa[aNY]using this
 .have:=key i o b;simp only[mZ,qu]at this;have:=this.2.1 _ v;unfold Nq at this;dsimp only at this;rw[qu]at this;have:=this (j,g) aaL;have f:EE g p=θ:=by unfold EE;rw[q];exact JH.2 l
  simp only[f,aS,ix,nR,aNY]at this
  split at this
  .rename_i m;exact .inl ⟨m,this⟩
  .simp only[mZ,nR,aNY]at this;exact .inr this
 .have:=key i o b;simp only[mZ,qu]at this;have:=this.2.2 (j,g) aaL;unfold Lq at this;simp only[aS,nR,aNY,gq r,mZ]at this;have:=this.1;rw[q]at this;have f:EE o (d)=θ:=by unfold EE;rw[x];exact JH.2 rfl
  simp[f]at this
 .have:=key i o b;simp only[mZ,qu]at this;have:=this.2.2 (j,g) aaL;unfold Lq at this;simp only[aS,nR,aNY,gq r,mZ]at this;have:=this.2
  simpa[u,k]using this
def afc (P:Program)(call:gZ)(ops:Array Oper)(b:List O)(fA:List TR):Prop:=∀(i:Nat) (t:TR),fA[i]?=some t->oK P t.o=false->rW P t.o=false->∀(c:Nat) (s:O),b[c]?=some s->
    (∃u∈fA,u.w=true/\u.c<c/\gz ops ops.size u.i t.i=true)\/(∃u∈fA,u.w=true/\c<=u.c/\gz ops ops.size t.i u.i=true)\/∃d,iM P call ops t.ab t.o t.fr s=.ok t.v d
def UR (P:Program)(ops:Array Oper)(as:List (Option Nat))(e:List O)(fA:List TR):Prop:=∀(j:Nat) (k:TR) (b:Nat),fA[j]?=some k->rW P k.o=true->as[j]?=some (some b)->∀(d:Nat) (f:TR),fA[d]?=some f->oK P f.o=true->
    gz ops ops.size d j=false->gz ops ops.size j d=false->(d<j->∀s,e[f.c]?=some s->s.m.g b=none)/\(j<d->∀s s',e[f.c]?=some s->e[f.c+1]?=some s'->s'.m.g b=s.m.g b)
def MK (b:EO P ops):∀(f i j:Nat),gz ops f i j=θ->j<i:=by
 intro f
 induction f with
 |zero=>intro i j h;cases h
 |succ f d=>
  intro i j h
  have e:gz ops (f+1) i j=(match ops[i]? with
   |none=>φ
   |some o=>GL o.after.toList λe=>Bool.and (Region.binds .any e) (qT e.on λk=>Bool.or (Nat.beq k j) (gz ops f k j))):=rfl
  rw[e]at h
  split at h
  .cases h
  .rename_i o ho;rw[Cq]at h;obtain⟨x,hx,h⟩:=h;simp only[dR,mZ,xF,md]at h;have:=b.s1 i o (by simpa using ho) x J8 h.1;rcases h.2 with h2|h2
   .omega
   .have:=d _ _ h2;omega
open Classical in
def AG (s:O)(f:Nat->Option tp):∀d:List Nat,∃M:O,M.nx=s.nx/\∀q,M.m.g q=if q∈d then f q else s.m.g q:=by
 intro d
 induction d with
 |nil=>exact⟨s,rfl,λq=>V⟩
 |cons b d k=>
  obtain⟨M,o,l⟩:=k;refine⟨⟨M.m.put b (f b),M.nx⟩,o,λq=>?_⟩;show(M.m.put b (f b)).g q=_;rw[PT.fw,l]
  by_cases e:q=b
  .subst e;simp
  .simp[e]
def unl (N:Nat)(listed:Array Bool):Nat:=(List.range N).countP λi=> !listed.getD i true
def MU {N:Nat}(hi:i<N)(q:listed.size=N)(p:listed.getD i true=false):unl N (listed.setIfInBounds i true)<unl N listed:=by
 unfold unl
 have key:∀(l:List Nat),i∈l->l.Nodup->l.countP (λk=> !(listed.setIfInBounds i true).getD k true)<l.countP (λk=> !listed.getD k true):=by
  have b:∀k,k≠i->(listed.setIfInBounds i true).getD k true=listed.getD k true:=λk d=>by simp[Xj (ny d)]
  have g:(listed.setIfInBounds i true).getD i true=true:=by simp[q,hi]
  intro l
  induction l with
  |nil=>intro h;simp at h
  |cons k l m=>
   intro h f;rw[me]at f;rw[List.countP_cons,List.countP_cons]
   by_cases d:k=i
   .subst d
    have:l.countP (λk'=> !(listed.setIfInBounds k true).getD k' true)=l.countP (λk'=> !listed.getD k' true):=by
     apply List.countP_congr;intro x o;rw[b x (λe=>f.1 (e▸o))]
    rw[this,g,p];simp
   .have hl:i∈l:=by simpa[ny d]using h
    have:=m hl f.2;rw[b k d];omega
 exact key _ J9 List.nodup_range
def mI (hi:i<listed.size):sC (listed.setIfInBounds i θ) j↔j=i\/sC listed j:=by
 unfold sC
 by_cases h:j=i
 .subst h;simp[hi]
 .simp[Xj (ny h),h]
def u9 (d:listed.size=ops.size):i∈Region.ready .any ops listed↔i<ops.size/\¬sC listed i/\Yp ops listed i:=by
 unfold Region.ready;rw[tH,List.mem_range];constructor
 .rintro⟨h1,h2⟩;simp only[mZ,å]at h2;refine⟨h1,?_,?_⟩
  .unfold sC;have:listed.getD i false=listed.getD i true:=by simp[d,h1]
   rw[this,h2.1];simp
  .intro o ho e b hb;have:=h2.2;rw[ho]at this;simp only[AR,Jd,Array.all_eq_true_iff_forall_mem]at this;have:=this e b;rw[hb]at this
   simpa[sC]using this
 .rintro⟨h1,h2,f⟩;refine⟨h1,?_⟩;simp only[mZ,å];constructor
  .unfold sC at h2;have:listed.getD i false=listed.getD i true:=by simp[d,h1]
   rw[this]at h2;simpa using h2
  .have ho:ops[i]?=some ops[i]:=by simp
   rw[ho];simp only[AR,Jd,Array.all_eq_true_iff_forall_mem];intro e b;cases hb:Region.binds .any e with
   |false=>rfl
   |true=>have:=f _ ho e b hb;simpa[sC]using this
def Ct (b:EO P ops)(g:listed.size=ops.size)(h:Region.ready .any ops listed=[]):∀i,i<ops.size->sC listed i:=by
 intro i
 induction i using Nat.strongRecOn with
 |_ i f=>
  intro hi
  by_cases d:sC listed i
  .exact d
  .have:=(u9 g).2 ⟨hi,d,λo k e l m=>by
    have:=b.s1 i o (by simpa using k) e l m;exact f _ this J⟩
   rw[h]at this;simp at this
structure Qp (P:Program)(ops:Array Oper)(as:List (Option Nat))(fA:List TR)(listed:Array Bool)(c:Nat)(ρ:Ren)(s M:O):Prop where
 nx:M.nx=s.nx
 late:∀(j:Nat) (t:TR) (b:Nat) (x:Nat×Nat),sC listed j->fA[j]?=some t->rW P t.o=true->as[j]?=some (some b)->ρ b=some x->t.s.m.g b=none/\(c<eu P ops.toList j->M.m.g b=t.s1.m.g b/\s.m.g b=none)
 Df:∀(q:Nat) (x:Nat×Nat),ρ q=some x->(∀(j:Nat) (t:TR),as[j]?=some (some q)->fA[j]?=some t->rW P t.o=true->¬c<eu P ops.toList j)->M.m.g q=s.m.g q
structure Inv (P:Program)(ops:Array Oper)(as:List (Option Nat))(fA:List TR)(ch:List O)(nf:O)(n:Nat)(ρ0:Ren)(CJ qy:O)(Cc:Fr)(w0:World)(listed:Array Bool)(a:Act)(w:World):Prop where
 size:listed.size=ops.size
 closed:∀i,sC listed i->Yp ops listed i
 inner:∀i,sC listed i->i<ops.size
 data:∃fr c ρ s M,FrP ops.toList fA (sC listed) Cc fr/\(∀j o,ops.toList[j]?=some o->oK P o=true->(sC listed j↔eu P ops.toList j<c))/\c<=ch.length/\(ch++[nf])[c]?=some s/\FR ρ fr a.tmps/\br ρ0 CJ w0 ρ M w/\qy.nx<=s.nx/\(∀j b,¬sC listed j->as[j]?=some (some b)->ρ b=none)/\Qp P ops as fA listed c ρ s M
 sz:n<=a.tmps.size
 defers:a.defers=[]
variable {as:δ (υ Nat)} {fA:δ TR} {ch:δ O} {ρ0:Ren} {CJ qy nf:O} {Cc Jl:Fr} {w0:World}
def aax {d f:Type}{l:δ d}{as:δ f}(h:as.length=l.length){o:d}(e:l[j]?=Φ o):∃ab,(l.zip as)[j]?=Φ (o,ab)/\as[j]?=Φ ab:=by
 have b:=(qo.1 e).1;refine⟨as[j]' J,?_,by simp[h,b]⟩;rw[List.getElem?_zip_eq_some];exact⟨e,by simp[h,b]⟩
section
variable (dG:wE P ops.toList CJ as qy) (lz:JR (ops.toList.zip as) P call n ops 0 0 Cc qy fA ch Jl nf)
include dG lz
def oY {o:Oper}(y:ops.toList[j]?=Φ o):∃t b,fA[j]?=Φ t/\as[j]?=Φ b/\t.i=j/\t.ab=b/\t.o=o/\t.w=oK P o/\t.c=eu P ops.toList j/\(∀d,o.dst=Φ d->d<n)/\FrP ops.toList fA (·<j) Cc t.fr/\
 iM P call ops b o t.fr t.s=.ok t.v t.s1/\(oK P o=θ->(ch++[nf])[eu P ops.toList j]?=Φ t.s):=by
 obtain⟨b,x,g⟩:=aax dG.len y;have z:(ops.toList.zip as).map (·.1)=ops.toList:=List.map_fst_zip aaI;obtain⟨t,u,C,r,q,p,m,l,f,k,e⟩:=lz.at' j o b x;rw[z]at m f e;refine⟨t,b,u,g,J,r,q,p,J,l,f,k,λh=>?_⟩;have:=e h;rw[Å (qo.1 this).1];exact this
def zK (b:fA[j]?=Φ t):ops.toList[j]?=Φ t.o:=by
 have g:(ops.toList.zip as).length=ops.toList.length:=acn
 have d:j<ops.toList.length:=by rw[<-g,<-lz.len];exact(qo.1 b).1
 obtain⟨k,l,e,_,_,_,f,_⟩:=oY dG lz (li d);rw[b]at e;cases e;rw[f,li d]
def EZ:fA.length=ops.toList.length:=by rw[lz.len,List.length_zip,dG.len];simp
def Cn:ch.length=eu P ops.toList ops.toList.length:=by
 have d:(ops.toList.zip as).map (·.1)=ops.toList:=List.map_fst_zip aaI;have b:(ops.toList.zip as).length=ops.toList.length:=acn
 have:=lz.chl;rw[d,b]at this;exact this
def gap {k:Nat}:∀{k':Nat},k<=k'->k'<=ops.toList.length->(∀j o,k<=j->j<k'->ops.toList[j]?=Φ o->oK P o=φ)->
 (mu fA nf k').nx=(mu fA nf k).nx/\∀q,(∀j t,k<=j->j<k'->fA[j]?=Φ t->rW P t.o=θ->as[j]?≠Φ (Φ q))->(mu fA nf k').m.g q=(mu fA nf k).m.g q:=by
 intro k'
 induction k' with
 |zero=>intro h _ _;have:k=0:=by omega
        subst this;exact⟨rfl,λ_ _=>rfl⟩
 |succ k' w=>
  intro h I p
  by_cases C:k=k'+1
  .subst C;exact⟨rfl,λ_ _=>rfl⟩
  obtain⟨y,i2⟩:=w J J (λj o d l=>p j o d J);have f:ops.toList[k']?=Φ ops.toList[k']:=li J;generalize ops.toList[k']=o at f;obtain⟨t,X,d,l,W,T,D,S,Q,N,L,u,F⟩:=oY dG lz f;have H:=lz.sr k' t d;have Kd:mu fA nf k'=t.s:=by unfold mu;rw[d]
  rw[<-H,<-y,Kd];have G:=p k' o J J f;cases hb:rW P o with
  |false=>
   have:=ua G hb u;rw[this];exact⟨rfl,λq hq=>acs⟩
  |true=>
   obtain⟨x,z⟩:=BB hb;obtain⟨b,r⟩:=dG.news k' o f (.inr hb);rw[l]at r;cases r;rcases xP z u with⟨_,_,e⟩|⟨_,s,_,_,_,e⟩
   .rw[e];exact⟨rfl,λq hq=>acs⟩
   .rw[e];refine⟨rfl,λq hq=>?_⟩;have v:q≠b:=λe=>hq k' t J J d (by rw[D];exact hb) (by rw[l,e]);show(t.s.m.put b _).g q=_;rw[PT.dy _ _ _ _ v,<-i2 q λj t g1 g2=>hq j t g1 J,Kd]
def yl:∀(m k:Nat),k+m=ops.toList.length->∃b,k<=b/\b<=ops.toList.length/\(∀j o,k<=j->j<b->ops.toList[j]?=Φ o->oK P o=φ)/\eu P ops.toList b=eu P ops.toList k/\(ch++[nf])[eu P ops.toList k]?=Φ (mu fA nf b)/\
 (b=ops.toList.length\/∃o,ops.toList[b]?=Φ o/\oK P o=θ):=by
 intro m
 induction m with
 |zero=>
  intro k v;have:k=ops.toList.length:=J
  refine⟨k,hI _,J,λj o l p=>J,rfl,?_,.inl this⟩;rw[this,<-Cn dG lz];have:mu fA nf ops.toList.length=nf:=by unfold mu;rw[In (by rw[EZ dG lz];exact hI _)]
  rw[this];simp
 |succ m u=>
  intro k v;have d:ops.toList[k]?=Φ ops.toList[k]:=li J;generalize ops.toList[k]=o at d;cases hw:oK P o with
  |true=>
   obtain⟨t,T,l,p,Q,N,L,I,H,G,F,W,g⟩:=oY dG lz d;refine⟨k,hI _,J,λj o l p=>J,rfl,?_,.inr ⟨o,d,hw⟩⟩;rw[g hw];unfold mu;rw[l]
  |false=>
   have hc:=qt (P:=P) d;rw[hw]at hc;simp only[pi,ii,rc]at hc;obtain⟨b,S,C,z,y,x,w⟩:=u (k+1) J;refine⟨b,J,C,λj q D r f=>?_,by rw[y,hc],by rw[<-hc];exact x,w⟩
   by_cases e:j=k
   .subst e;rw[d]at f;cases f;exact hw
   .exact z j q J r f
def Bv {b:Nat}(d:fA[j]?=Φ t)(l:rW P t.o=θ)(p:as[j]?=Φ (Φ b)):∃s,(ch++[nf])[eu P ops.toList j]?=Φ s/\s.m.g b=t.s1.m.g b:=by
 have ho:=zK dG lz d;have k:=(qo.1 ho).1;have hc:=qt (P:=P) ho;rw[Ge l]at hc;simp only[pi,ii,rc]at hc;obtain⟨x,v,u,r,G,e,F⟩:=yl dG lz (ops.toList.length-(j+1)) (j+1) J;rw[hc]at e;refine⟨_,e,?_⟩;rw[(gap dG lz v u r).2 b λf w D C z y q=>by have:=dG.uniq j f b p q;omega,<-lz.sr j t d]
end
def Inv.done (dG:wE P ops.toList CJ as qy)(lz:JR (ops.toList.zip as) P call n ops 0 0 Cc qy fA ch Jl nf){w:World}(h:Inv P ops as fA ch nf n ρ0 CJ qy Cc w0 listed a w)(C:∀i,i<ops.size->sC listed i):
 si ρ0 CJ w0 n (.norm Jl nf) .normal a w:=by
 obtain⟨fr,c,ρ,s,M,z,Q,h3,r,N,L,Y,X,y⟩:=h.data;have T:(ops.toList.zip as).map (·.1)=ops.toList:=List.map_fst_zip aaI;have S:(ops.toList.zip as).length=ops.toList.length:=acn
 have H:c=ch.length:=by
  by_cases g:c<ch.length
  .rw[Cn dG lz]at g;obtain⟨j,o,b,f,k,g4⟩:=yI (P:=P) (l:=ops.toList) ops.toList.length (hI _) c g;have:=(Q j o f k).1 (C j (by simpa using b));omega
  .omega
 subst H
 have G:s=nf:=by
  rw[é (hI _)]at r;simp at r;exact r.symm
 subst G
 have I:=L.ue (λq x D=>(y.Df q x D λj t _ F W g=>by
  have ho:=zK dG lz F;have m:=(qo.1 ho).1;have:=oI (P:=P) (l:=ops.toList) (Nat.le_of_lt m);have:=Cn dG lz;omega).symm) y.nx.symm
 refine⟨rfl,ρ,⟨λt=>?_,h.sz,h.defers,I⟩⟩
 have:fZ Jl (t)=fZ fr (t):=by
  have u:=lz.fin;rw[T]at u
  by_cases p:∃(j:Nat) (o:Oper) (d:Tmp),ops.toList[j]?=Φ o/\o.dst=Φ d/\d=t
  .obtain⟨j,o,d,b,f,rfl⟩:=p;have hj:=(qo.1 b).1;obtain⟨v,_,k,_⟩:=oY dG lz b;rw[u.1 j o d v (by show j<_;rw[S];exact hj) b f k,z.1 j o d v (C j aem) b f k]
  .rw[u.2,z.2]
   .exact λj o d _ b f e=>p ⟨j,o,d,b,f,e⟩
   .exact λj o d _ b f e=>p ⟨j,o,d,b,f,e⟩
 rw[this];exact N t
def Qp.sub (h:Qp P ops as fA listed c ρ s M)(r:∀j b,¬sC listed j->as[j]?=Φ (Φ b)->ρ b=ν):∀q x,ρ q=Φ x->s.m.g q=M.m.g q\/s.m.g q=ν:=by
 intro q x d
 by_cases hh:∃(j:Nat) (t:TR),as[j]?=Φ (Φ q)/\fA[j]?=Φ t/\rW P t.o=θ/\c<eu P ops.toList j
 .obtain⟨j,t,e,l,k,f⟩:=hh
  by_cases p:sC listed j
  .exact .inr ((h.late j t q x p l k e d).2 f).2
  .rw[r j q p e]at d;cases d
 .exact .inl (h.Df q x d λj t e l k f=>hh ⟨j,t,e,l,k,f⟩).symm
def oV (P:Program)(ops:Array Oper)(as:δ (υ Nat))(fA:δ TR)(listed:Array Bool)(c:Nat)(ρ:Ren)(q:Nat):Prop:=∃(j:Nat) (t:TR) (x:Nat×Nat),sC listed j/\fA[j]?=Φ t/\rW P t.o=θ/\as[j]?=Φ (Φ q)/\c<eu P ops.toList j/\ρ q=Φ x
open Classical in
def Qp.step {f:Ren}{d:O}{w w':World}(h:Qp P ops as fA listed c ρ s M)(G:∀j b,¬sC listed j->as[j]?=some (some b)->ρ b=none)(D:br ρ0 CJ w0 ρ M w)(H:br ρ s w f d w')
 (_:∀q,oV P ops as fA listed c ρ q->d.m.g q=none):∃e,br ρ0 CJ w0 f e w'/\e.nx=d.nx/\∀q,e.m.g q=if oV P ops as fA listed c ρ q then M.m.g q else d.m.g q:=by
 obtain⟨e,F,I⟩:=AG d (λq=>if oV P ops as fA listed c ρ q then M.m.g q else d.m.g q) (as.filterMap id)
 have r:∀q,e.m.g q=if oV P ops as fA listed c ρ q then M.m.g q else d.m.g q:=by
  intro q;rw[I]
  by_cases p:q∈as.filterMap id
  .rw[gq p]
  .rw[B p,B];rintro⟨j,t,x,_,_,_,k,_⟩;refine p (List.mem_filterMap.2 ⟨some q,Do k,rfl⟩)
 refine⟨e,D.trans (br.frame D.wr h.nx.symm (h.sub G) H F λq x L=>?_),F,r⟩
 by_cases l:oV P ops as fA listed c ρ q
 .right;obtain⟨j,t,y,k,C,z,v,u,o⟩:=l;have l:oV P ops as fA listed c ρ q:=⟨j,t,y,k,C,z,v,u,o⟩;exact⟨⟨y,o⟩,((h.late j t q y k C z v o).2 u).2,by rw[r,gq l]⟩
 .left;rw[r,B l]
open Classical in
def Inv.step (hc:ki P call)(ac:EO P ops)(dG:wE P ops.toList CJ as qy)(lz:JR (ops.toList.zip as) P call n ops 0 0 Cc qy fA ch Jl nf)(Xx:afc P call ops (ch++[nf]) fA)(aa:UR P ops as (ch++[nf]) fA){w:World}
 (h:Inv P ops as fA ch nf n ρ0 CJ qy Cc w0 listed a w)  (hi:i∈Region.ready .any ops listed) {ah:Act->World->Prop} {Q:Exit->Act->World->Prop}
 (hK:∀a' w',Inv P ops as fA ch nf n ρ0 CJ qy Cc w0 (listed.setIfInBounds i true) a' w'->ah a' w'):wpOp P ops Q i ah a w:=by
 obtain⟨lA,Gq,ZM⟩:=(u9 h.size).1 hi;obtain⟨fr,c,ρ,s,M,h1,h2,h3,h4,h5,h6,h7,h8,h9⟩:=h.data;have ho:ops[i]?=some ops[i]:=V
 generalize ops[i]=o at ho;have Kf:ops.toList[i]?=some o:=by simpa using ho
 obtain⟨t,ab,t1,vx,t2,al,t3,t4,t5,t6,t7,t9,ap⟩:=oY dG lz Kf;have Tv:∀j,gz ops ops.size i j=true->sC listed j:=λj r=>Cr h.closed _ _ _ r ZM;have Jc:∀j k,gz ops ops.size k j=true->sC listed k->sC listed j:=λj k r hk=>Cr h.closed _ _ _ r (h.closed k hk);have Ev:i<listed.size:=by rw[h.size];exact lA
 have NN:∀x∈sV P ops o,ev fr x=ev t.fr x:=by
  intro x N;cases x with
  |const v=>rfl
  |tmp p=>
   show fZ fr p=fZ t.fr p
   by_cases hd:∃(j:Nat) (C:Oper) (d:Tmp),ops.toList[j]?=some C/\C.dst=some d/\d=p
   .obtain⟨j,C,d,f,D,W⟩:=hd
    have ND:∀(Y:Nat) (o':Oper) (d':Tmp),ops.toList[Y]?=some o'->o'.dst=some d'->d'=p->Y=j:=by
     intro Y o' d' X G k3;have:d'=d:=(by rw[k3,W]);subst this;rcases aOb Y j with aa|heq|Ex
     .exact absurd D (ac.s3 Y j o' C d' aa X f G)
     .exact heq
     .exact absurd G (ac.s3 j Y C o' d' Ex f X D)
    rcases ac.s2 i o Kf p N j C d f D W with⟨T,g5⟩|⟨T,g5⟩
    .obtain⟨tj,_,g6,_⟩:=oY dG lz f;subst W;rw[h1.1 j C d tj (Tv j g5) f D g6,t7.1 j C d tj T f D g6]
    .rw[h1.2,t7.2]
     .intro Y o' d' k0 X G k3;have:=ND Y o' d' X G k3;have k0:=k0;omega
     .intro Y o' d' k0 X G k3;have:=ND Y o' d' X G k3;subst this;exact Gq (Jc i Y g5 k0)
   .rw[h1.2,t7.2]
    .exact λj o d _ f D e=>hd ⟨j,o,d,f,D,e⟩
    .exact λj o d _ f D e=>hd ⟨j,o,d,f,D,e⟩
 have ag:∀v' w' H c2 s2 M2,VR H t.v v'->ρ.le H->(∀j C,ops.toList[j]?=some C->oK P C=true->(j=i\/sC listed j↔eu P ops.toList j<c2))->c2<=ch.length->(ch++[nf])[c2]?=some s2->br ρ0 CJ w0 H M2 w'->qy.nx<=s2.nx->
  (∀j b,¬sC (listed.setIfInBounds i true) j->as[j]?=some (some b)->H b=none)->Qp P ops as fA (listed.setIfInBounds i true) c2 H s2 M2->ah (a.put o.dst v') w':=by
  intro v' w' H c2 s2 M2 hv af k4 k3 G hA k7 k8 k9
  refine hK _ _ {
   size:=by simp[h.size]
   closed:=λj r o' Vd e he hb=>by
    rw[mI Ev]at r⊢;rcases r with rfl|r
    .exact .inr (ZM o' Vd e he hb)
    .exact .inr (h.closed j r o' Vd e he hb)
   inner:=λj r=>by
    rw[mI Ev]at r;rcases r with rfl|r
    .exact lA
    .exact h.inner j r
   data:=by
    cases hd:o.dst with
    |none=>
     refine⟨fr,c2,H,s2,M2,⟨λj C d tj f D W T=>?_,λp hp=>h1.2 p λj C d f=>hp j C d ((mI Ev).2 (.inr f))⟩,λj C f D=>?_,k3,G,h5.mono af,hA,k7,k8,k9⟩
     .rcases(mI Ev).1 f with rfl|f
      .rw[Kf]at D;cases D;rw[hd]at W;cases W
      .exact h1.1 j C d tj f D W T
     .rw[mI Ev];exact k4 j C f D
    |some d=>
     refine⟨fr.put (d) (some t.v),c2,H,s2,M2,⟨λj C d' tj f D W T=>?_,λp hp=>?_⟩,λj C f D=>?_,k3,G,(h5.mono af).ahu (ov (t6 d hd) h.sz) hv,hA,k7,k8,k9⟩
     .rcases(mI Ev).1 f with rfl|f
      .rw[Kf]at D;cases D;rw[hd]at W;cases W;rw[t1]at T;cases T;exact nO _ _ _
      .have an:=f;rw[oG]
       .exact h1.1 j C d' tj f D W T
       .intro e;subst e;rcases aOb j i with aa|heq|Ex
        .exact ac.s3 j i C o d' aa D Kf W hd
        .rw[heq]at an;exact Gq an
        .exact ac.s3 i j o C d' Ex Kf D hd W
     .rw[oG]
      .exact h1.2 p λj C d' f=>hp j C d' ((mI Ev).2 (.inr f))
      .exact λe=>hp i o d ((mI Ev).2 (.inl rfl)) Kf hd e.symm
     .rw[mI Ev];exact k4 j C f D
   sz:=by rw[HX];exact h.sz
   defers:=by rw[Bd];exact h.defers}
 have Ab:oK P o=false->∀j C,ops.toList[j]?=some C->oK P C=true->(j=i\/sC listed j↔eu P ops.toList j<c):=λhw j C f D=>by
  rw[h2 j C f D];constructor
  .rintro(e|e)
   .subst e;rw[Kf]at f;cases f;rw[hw]at D;cases D
   .exact e
  .exact .inr
 have SH:∀j b,¬sC (listed.setIfInBounds i true) j->as[j]?=some (some b)->j≠i/\ρ b=none:=λj b r hb=>by
  rw[mI Ev]at r;exact⟨λe=>r (.inl e),h8 j b (λhh=>r (.inr hh)) hb⟩
 have wA:∀j,sC (listed.setIfInBounds i true) j->j≠i->sC listed j:=λj r jg=>by
  rcases(mI Ev).1 r with e|e
  .exact absurd e jg
  .exact e
 unfold wpOp;rw[ho];dsimp only
 suffices NQ:(if Region.wanted o (yielded ops a.tmps)then Oper.wp P o a w ah Q else ah (a.put o.dst undef) w) by
  split
  .rename_i xA;rw[gq xA]at NQ;exact .inl NQ
  .rename_i xA;rw[B xA]at NQ;exact NQ
 cases oT:qd P o with
 |some tz=>
  obtain⟨b,hb⟩:=dG.news i o Kf (.inl (by rw[oT];simp));rw[vx]at hb;cases hb;have hr:=dG.range i b vx;have Mp:=h8 i b Gq vx;have hw:oK P o=false:=by unfold oK;rw[oT]
  have hB:rW P o=false:=by unfold rW;rw[zi (by rw[oT];simp)]
  have ae:∀u∈fA,u.w=true->∃j C,ops.toList[j]?=some C/\oK P C=true/\u.i=j/\u.c=eu P ops.toList j:=by
   intro u hu aj;obtain⟨j,r,rfl⟩:=Di hu;have Vd:=zK dG lz (li r);obtain⟨tj,_,f,_,D,_,_,W,T,_⟩:=oY dG lz Vd;rw[li r]at f;cases f;exact⟨j,_,Vd,by rw[<-W];exact aj,D,T⟩
  have SK:∃s1,iM P call ops (some b) o fr s=.ok t.v s1:=by
   rw[qF NN];rcases Xx i t t1 (by rw[t3];exact hw) aca c s h4 with⟨u,f,D,W,T⟩|⟨u,f,D,W,T⟩|⟨s2,g⟩
   .obtain⟨j,C,X,G,k3,k4⟩:=ae u f D;rw[t2,k3]at T;exact absurd (Jc i j T ((h2 j C X G).2 J)) Gq
   .obtain⟨j,C,X,G,k3,k4⟩:=ae u f D;rw[t2,k3]at T;have:=(h2 j C X G).1 (Tv j T);omega
   .rw[t3,al]at g;exact⟨s2,g⟩
  obtain⟨sx,SJ⟩:=SK;obtain⟨M2,m1,m2⟩:=AG M (λ_=>s.m.g b) [b]
  have m3:∀q x,ρ q=some x->M2.m.g q=M.m.g q:=λq x N=>by
   rw[m2,B (λe=>by have:=If.1 e;subst this;rw[Mp]at N;cases N)]
  have TD:=h6.ue m3 m1;refine CZ oT SJ (by rw[m2,gq V]) TD h5 Mp (by rw[m1,h9.nx];omega) J λv' w' H hv hA af S=>ag v' w' H c s M2 hv af (Ab hw) h3 h4 hA h7 (λj I r L=>?_) ⟨by rw[m1];exact h9.nx,λj F I x r BF L ha N=>?_,λq x N rm=>?_⟩
  .obtain⟨X,G⟩:=SH j I r L;rw[S I (λe=>X (dG.uniq j i I L afH))];exact G
  .have BT:j≠i:=λe=>by subst e;rw[t1]at BF;cases BF;rw[t3,hB]at L;cases L
   have jg:I≠b:=λe=>BT (dG.uniq j i I ha afH);rw[S I jg]at N;obtain⟨X,G⟩:=h9.late j F I x (wA j r BT) BF L ha N;exact⟨X,λVh=>by rw[m3 I x N];exact G Vh⟩
  .by_cases e:q=b
   .subst e;rw[m2,gq V]
   .rw[S q e]at N;rw[m3 q x N];exact h9.Df q x N rm
 |none=>
  cases il:ma P o with
  |some x=>
   have hB:rW P o=true:=by unfold rW;rw[il]
   obtain⟨b,hb⟩:=dG.news i o Kf (.inr hB);rw[vx]at hb;cases hb;have hr:=dG.range i b vx;have Mp:=h8 i b Gq vx;have hw:=Ge hB;rw[<-qF NN]at t9;rcases xP il t9 with⟨f,D,W⟩|⟨f,sx,D,W,T,g5⟩
   .rw[B (by rw[jY f h5];simp)];refine ag undef w ρ c s M (by rw[D];exact .undef) (λ_ _ h=>h) (Ab hw) h3 h4 h6 h7 (λj I r L=>(SH j I r L).2) ⟨h9.nx,λj F I y r BF L ha hy=>?_,h9.Df⟩
    by_cases BT:j=i
    .subst BT;rw[vx]at ha;cases ha;rw[Mp]at hy;cases hy
    .exact h9.late j F I y (wA j r BT) BF L ha hy
   .rw[gq (jY f h5)];obtain⟨e,len,z,ps⟩:=x;obtain⟨l,l1,l2⟩:=Sq il h5 D;have BX:t.s1.m.g b=some (.cells sx e false):=by rw[g5];exact PT.du _ _ _
    have ZR:(c<eu P ops.toList i->s.m.g b=none)/\(¬c<eu P ops.toList i->s.m.g b=some (.cells sx e false)):=by
     constructor
     .intro qS;obtain⟨d,od,d1,d2,d3,d4⟩:=yI (P:=P) (l:=ops.toList) i (Nat.le_of_lt (by simpa using lA)) c qS;obtain⟨td,_,e1,_,e2,_,e3,e4,e5,_⟩:=oY dG lz d2;have Mo:¬sC listed d:=λhh=>by have:=(h2 d od d2 d3).1 hh;omega
      have a1:gz ops ops.size d i=false:=by
       cases hh:gz ops ops.size d i with
       |false=>rfl
       |true=>have:=MK ac _ _ _ hh;omega
      have a2:gz ops ops.size i d=false:=by
       cases hh:gz ops ops.size i d with
       |false=>rfl
       |true=>exact absurd (Tv d hh) Mo
      exact(aa i t b t1 aca vx d td e1 (by rw[e3];exact d3) a1 a2).1 d1 s (by rw[e5,d4];exact h4)
     .intro qS;obtain⟨sj,j1,j2⟩:=Bv dG lz t1 aca vx
      have key:∀m s',eu P ops.toList i+m<=c->(ch++[nf])[eu P ops.toList i+m]?=some s'->s'.m.g b=some (.cells sx e false):=by
       intro m
       induction m with
       |zero=>intro s' _ xi;rw[rc,j1]at xi;cases xi;rw[j2,BX]
       |succ m ih=>
        intro s' hm xi;have hlen:=(qo.1 xi).1;obtain⟨s0,Zg⟩:∃s0,(ch++[nf])[eu P ops.toList i+m]?=some s0:=⟨_,li J⟩;have aw:eu P ops.toList i+m<eu P ops.toList ops.toList.length:=by rw[<-Cn dG lz];omega
        obtain⟨d,od,d1,d2,d3,d4⟩:=yI (P:=P) (l:=ops.toList) ops.toList.length (hI _) _ aw;obtain⟨td,_,e1,_,e2,_,e3,e4,e5,_⟩:=oY dG lz d2;have Mo:=(h2 d od d2 d3).2 J
        have ar:i<d:=by
         rcases aOb i d with hh|hh|hh
         .exact hh
         .subst hh;exact absurd Mo Gq
         .have:=qt (P:=P) d2;rw[d3]at this;simp only[ix]at this;have:=oI (P:=P) (l:=ops.toList) (show d+1<=i from J);omega
        have a1:gz ops ops.size d i=false:=by
         cases hh:gz ops ops.size d i with
         |false=>rfl
         |true=>exact absurd (Jc i d hh Mo) Gq
        have a2:gz ops ops.size i d=false:=by
         cases hh:gz ops ops.size i d with
         |false=>rfl
         |true=>have:=MK ac _ _ _ hh;omega
        rw[(aa i t b t1 aca vx d td e1 (by rw[e3];exact d3) a1 a2).2 ar s0 s' (by rw[e5,d4];exact Zg) (by rw[e5,d4];exact xi)];exact ih s0 J Zg
      have tK:=key (c-eu P ops.toList i) s J (by rw[show eu P ops.toList i+(c-eu P ops.toList i)=c from J];exact h4);exact tK
    obtain⟨M2,m1,m2⟩:=AG M (λ_=>some (.cells sx e false)) [b]
    have m3:∀q x,ρ q=some x->M2.m.g q=M.m.g q:=λq x N=>by
     rw[m2,B (λe=>by have:=If.1 e;subst this;rw[Mp]at N;cases N)]
    have m4:M2.m.g b=some (.cells sx e false):=by rw[m2,gq V]
    have TD:=(h6.ue m3 m1).alM m4 Mp (by rw[m1,h9.nx];omega) l1 J;have S:∀q,q≠b->ρ.set b (w.heap.size,l.length) q=ρ q:=λq S=>Ren.dF _ _ _ _ S;unfold Oper.wp;rw[l2 w];refine ag (.slice (some ⟨w.heap.size,0,none⟩) len len) _ (ρ.set b (w.heap.size,l.length)) c s M2 (by rw[T];exact .slice _ _ _ _ _ _ (Ren.eZ ρ b _)) (λq x N=>by rw[S q (λe=>by subst e;rw[Mp]at N;cases N)];exact N) (Ab hw) h3 h4 TD h7 (λj I r L=>?_) ⟨by rw[m1];exact h9.nx,λj F I y r BF L ha hy=>?_,λq y hy rm=>?_⟩
    .obtain⟨X,G⟩:=SH j I r L;rw[S I (λe=>X (dG.uniq j i I L afH))];exact G
    .by_cases BT:j=i
     .subst BT;rw[vx]at ha;cases ha;rw[t1]at BF;cases BF;exact⟨W,λVh=>⟨by rw[m4,BX],ZR.1 Vh⟩⟩
     .have jg:I≠b:=λe=>BT (dG.uniq j i I ha afH);rw[S I jg]at hy;obtain⟨X,G⟩:=h9.late j F I y (wA j r BT) BF L ha hy;exact⟨X,λVh=>by rw[m3 I y hy];exact G Vh⟩
    .by_cases e':q=b
     .subst e';rw[m4,ZR.2 (rm i t vx t1 aca)]
     .rw[S q e']at hy;rw[m3 q y hy];exact h9.Df q y hy rm
  |none=>
   have hB:rW P o=false:=by unfold rW;rw[il]
   have wy:=h6.wr.sub (h9.sub h8) h9.nx.symm;cases hw:oK P o with
   |true=>
    have af:¬eu P ops.toList i<c:=λhh=>Gq ((h2 i o Kf hw).2 hh)
    have au:c=eu P ops.toList i:=by
     by_cases aa:c<eu P ops.toList i
     .have Hd:i<=ops.toList.length:=by simp;omega
      obtain⟨j,C,f,D,W,T⟩:=yI (P:=P) (l:=ops.toList) i Hd c aa;have:=(h2 j C D W).1 (Tv j (ac.s4 i j o C Kf D f hw W));omega
     .omega
    subst au;have am:=ap hw;rw[h4]at am;cases am;rw[<-qF NN]at t9;obtain⟨_,ak⟩:=uc oT il t9;have tF:=qt (P:=P) Kf;rw[hw]at tF;simp only[ix]at tF;have Hd:i<ops.toList.length:=by simpa using lA
    obtain⟨G,n1,n2,n3,n4,n5,n6⟩:=yl dG lz (ops.toList.length-(i+1)) (i+1) J;rw[tF]at n5;obtain⟨gn,gm⟩:=gap dG lz n1 n2 n3;have Kd:=(lz.sr i t t1).symm;rw[Kd]at gn gm
    have ao:∀q j F x,sC listed j->fA[j]?=some F->rW P F.o=true->as[j]?=some (some q)->ρ q=some x->G<j->(mu fA nf G).m.g q=none:=by
     intro q j F x j1 j2 j3 j4 j5 j6;rcases n6 with e|⟨od,e1,e2⟩
     .have:=(qo.1 j2).1;rw[EZ dG lz]at this;omega
     .obtain⟨td,_,d1,_,d2,_,d3,d4,d5,_⟩:=oY dG lz e1;have Mo:¬sC listed G:=λhh=>by have:=(h2 G od e1 e2).1 hh;omega
      have a1:gz ops ops.size G j=false:=by
       cases hh:gz ops ops.size G j with
       |false=>rfl
       |true=>have:=MK ac _ _ _ hh;omega
      have a2:gz ops ops.size j G=false:=by
       cases hh:gz ops ops.size j G with
       |false=>rfl
       |true=>exact absurd (Jc G j hh j1) Mo
      exact(aa j F q j2 j3 j4 G td d1 (by rw[d3];exact e2) a1 a2).1 j6 _ (by rw[d5,n4,tF];exact n5)
    have L9:∀{j:Nat} {F:TR},fA[j]?=some F->rW P F.o=true->eu P ops.toList i<eu P ops.toList j->i+1<=j:=by
     intro j F _ _ j3;rcases wl i j with hh|hh
     .omega
     .have:=oI (P:=P) (l:=ops.toList) hh;omega
    have av:∀{j:Nat} {F:TR},fA[j]?=some F->rW P F.o=true->j≠G:=by
     intro j F j1 j2 e;subst e;rcases n6 with e|⟨od,e1,e2⟩
     .have:=(qo.1 j1).1;rw[EZ dG lz]at this;omega
     .have:=zK dG lz j1;rw[e1]at this;cases this;rw[Ge j2]at e2;cases e2
    refine ub hc ak wy h5 λv' w' H hv hA=>?_
    have gX:∀q,oV P ops as fA listed (eu P ops.toList i) ρ q->t.s1.m.g q=none:=by
     rintro q ⟨j,F,x,j1,j2,j3,j4,j5,j6⟩;have Mk:=L9 j2 j3 j5;rcases wl j G with aq|aq
     .have hg:=(gap dG lz (k:=i+1) (k':=j) Mk J (λY o' q1 q2=>n3 Y o' q1 J)).2 q (λY ai q1 q2 q3 q4 q5=>by have:=dG.uniq j Y q j4 q5;omega);rw[Kd]at hg;rw[<-hg];have:mu fA nf j=F.s:=by unfold mu;rw[j2]
      rw[this];exact(h9.late j F q x j1 j2 j3 j4 j6).1
     .rw[<-gm q λY ai q1 q2 q3 q4 q5=>by have:=dG.uniq j Y q j4 q5;omega];exact ao q j F x j1 j2 j3 j4 j6 (by have:=av j2 j3;omega)
    obtain⟨M1,b1,b2,b3⟩:=h9.step h8 h6 hA gX;have Tm:∀q j,as[j]?=some (some q)->ρ q=none->H q=none:=λq j r S=>hA.Of q (by have:=dG.range j q r;omega) S
    have ZT:∀q j x,as[j]?=some (some q)->H q=some x->∃y,ρ q=some y:=λq j x r N=>by
     cases S:ρ q with
     |some y=>exact⟨y,rfl⟩
     |none=>rw[Tm q j r S]at N;cases N
    obtain⟨M2,m1,m2⟩:=AG (mu fA nf G) (λq=>if oV P ops as fA listed (eu P ops.toList i+1) ρ q then M.m.g q else (mu fA nf G).m.g q) (as.filterMap id)
    have m3:∀q,M2.m.g q=if oV P ops as fA listed (eu P ops.toList i+1) ρ q then M.m.g q else (mu fA nf G).m.g q:=by
     intro q;rw[m2]
     by_cases S:q∈as.filterMap id
     .rw[gq S]
     .rw[B S,B];rintro⟨j,t,x,_,_,_,X,_⟩;exact S (List.mem_filterMap.2 ⟨some q,Do X,rfl⟩)
    have TD:br ρ0 CJ w0 H M2 w':=by
     refine b1.ue (λq x N=>?_) (by rw[m1,b2,gn]);rw[m3,b3]
     by_cases S:∃(j:Nat) (F:TR),as[j]?=some (some q)/\fA[j]?=some F/\rW P F.o=true
     .obtain⟨j,F,j1,j2,j3⟩:=S;obtain⟨y,hy⟩:=ZT q j x j1 N;have Xq:=Classical.byContradiction λhh=>by rw[h8 j q hh j1]at hy;cases hy
      have ad:∀(d:Nat),oV P ops as fA listed d ρ q↔d<eu P ops.toList j:=λd=>by
       constructor
       .rintro⟨Y,ai,y',_,_,_,q1,q2,_⟩;rw[<-dG.uniq Y j q q1 j1];exact q2
       .exact λhd=>⟨j,F,y,Xq,j2,j3,j1,hd,hy⟩
      by_cases c1:eu P ops.toList i+1<eu P ops.toList j
      .rw[gq ((ad _).2 c1),gq ((ad _).2 J)]
      .rw[B (λhh=>c1 ((ad _).1 hh))]
       by_cases c2:eu P ops.toList i<eu P ops.toList j
       .rw[gq ((ad _).2 c2),((h9.late j F q y Xq j2 j3 j1 hy).2 c2).1];obtain⟨sj,s1,s2⟩:=Bv dG lz j2 j3 j1;rw[show eu P ops.toList j=eu P ops.toList i+1 from J,n5]at s1;cases s1;exact s2
       .rw[B (λhh=>c2 ((ad _).1 hh)),gm q];intro Y ai q1 q2 q3 q4 q5;have:=dG.uniq j Y q j1 q5;subst this;have:=oI (P:=P) (l:=ops.toList) q1;omega
     .have no:∀(d:Nat),¬oV P ops as fA listed d ρ q:=λd=>by
       rintro⟨j,F,y,_,q1,q2,q3,_⟩;exact S ⟨j,F,q3,q1,q2⟩
      rw[B (no _),B (no _),gm q];exact λj F _ _ q1 q2 q3=>S ⟨j,F,q3,q1,q2⟩
    refine ag v' w' H (eu P ops.toList i+1) (mu fA nf G) M2 hv hA.ext (λj C f D=>?_) ?_ n5 TD (by rw[gn];exact rx h7 hA.nx) (λj I r L=>Tm I j L (SH j I r L).2) ⟨m1,λj F I x r BF L ha N=>?_,λq x N rm=>?_⟩
    .by_cases BT:j=i
     .subst BT;simp
     .have jg:eu P ops.toList j≠eu P ops.toList i:=by
       rcases wl j i with aa|tE
       .have:=qt (P:=P) f;rw[D]at this;simp only[ix]at this;have h':=oI (P:=P) (l:=ops.toList) (show j+1<=i from J);omega
       .have h':=oI (P:=P) (l:=ops.toList) (show i+1<=j from J);omega
      rw[h2 j C f D];constructor
      .rintro(e|e)
       .exact absurd e BT
       .omega
      .intro e;right;omega
    .rw[Cn dG lz,<-tF];exact oI J
    .have BT:j≠i:=λe=>by subst e;rw[t1]at BF;cases BF;rw[t3,hB]at L;cases L
     obtain⟨y,hy⟩:=ZT I j x ha N;have Xq:=wA j r BT;obtain⟨q1,q2⟩:=h9.late j F I y Xq BF L ha hy;refine⟨q1,λVh=>⟨?_,?_⟩⟩
     .rw[m3,gq ⟨j,F,y,Xq,BF,L,ha,Vh,hy⟩];exact(q2 J).1
     .have Mk:=L9 BF L J;refine ao I j F y Xq BF L ha hy ?_;rcases wl G j with hh|hh
      .exact hh
      .have:=oI (P:=P) (l:=ops.toList) hh;rw[n4,tF]at this;omega
    .rw[m3,B];rintro⟨j,F,y,_,q1,q2,q3,q4,_⟩;exact rm j F q3 q1 q2 q4
   |false=>
    have ae:∀u∈fA,u.w=true->∃j C,ops.toList[j]?=some C/\oK P C=true/\u.i=j/\u.c=eu P ops.toList j:=by
     intro u hu aj;obtain⟨j,r,rfl⟩:=Di hu;have Vd:=zK dG lz (li r);obtain⟨tj,_,f,_,D,_,_,W,T,_⟩:=oY dG lz Vd;rw[li r]at f;cases f;exact⟨j,_,Vd,by rw[<-W];exact aj,D,T⟩
    have SK:∃s1,iM P call ops ab o fr s=.ok t.v s1:=by
     rw[qF NN];rcases Xx i t t1 (by rw[t3];exact hw) aca c s h4 with⟨u,f,D,W,T⟩|⟨u,f,D,W,T⟩|⟨s2,g⟩
     .obtain⟨j,C,X,G,k3,k4⟩:=ae u f D;rw[t2,k3]at T;exact absurd (Jc i j T ((h2 j C X G).2 J)) Gq
     .obtain⟨j,C,X,G,k3,k4⟩:=ae u f D;rw[t2,k3]at T;have:=(h2 j C X G).1 (Tv j T);omega
     .rw[t3,al]at g;exact⟨s2,g⟩
    obtain⟨sx,SJ⟩:=SK;rw[ua hw hB SJ]at SJ;obtain⟨ax,ak⟩:=uc oT il SJ;refine ub hc ak wy h5 λv' w' H hv hA=>?_
    have gX:∀q,oV P ops as fA listed c ρ q->s.m.g q=none:=by
     rintro q ⟨j,F,x,j1,j2,j3,j4,j5,j6⟩;exact((h9.late j F q x j1 j2 j3 j4 j6).2 j5).2
    obtain⟨M1,b1,b2,b3⟩:=h9.step h8 h6 hA gX;have Tm:∀q j,as[j]?=some (some q)->ρ q=none->H q=none:=λq j r S=>hA.Of q (by have:=dG.range j q r;omega) S;refine ag v' w' H c s M1 hv hA.ext (Ab hw) h3 h4 b1 h7 (λj I r L=>Tm I j L (SH j I r L).2) ⟨b2,λj F I x r BF L ha N=>?_,λq x N rm=>?_⟩
    .have BT:j≠i:=λe=>by subst e;rw[t1]at BF;cases BF;rw[t3,hB]at L;cases L
     cases S:ρ I with
     |none=>rw[Tm I j ha S]at N;cases N
     |some y=>
      have Xq:=wA j r BT;obtain⟨q1,q2⟩:=h9.late j F I y Xq BF L ha S;refine⟨q1,λVh=>?_⟩;rw[b3,gq ⟨j,F,y,Xq,BF,L,ha,Vh,S⟩];exact q2 Vh
    .rw[b3,B];rintro⟨j,F,y,_,q1,q2,q3,q4,_⟩;exact rm j F q3 q1 q2 q4
def T0 (o:ki P call)(b:EO P ops)(dG:wE P ops.toList CJ as qy)(lz:JR (ops.toList.zip as) P call n ops 0 0 Cc qy fA ch Jl nf)(u:afc P call ops (ch++[nf]) fA)(k:UR P ops as (ch++[nf]) fA):∀(fuel:Nat) (listed:Array Bool) (a:Act) (w:World),
 Inv P ops as fA ch nf n ρ0 CJ qy Cc w0 listed a w->unl ops.size listed<=fuel->wpAny P .any ops (si ρ0 CJ w0 n (.norm Jl nf)) fuel listed a w:=by
 intro fuel
 induction fuel with
 |zero=>
  intro listed a w h m
  have g:Region.ready .any ops listed=[]:=by
   rw[List.eq_nil_iff_forall_not_mem];intro i hi;obtain⟨f,d,p⟩:=(u9 h.size).1 hi
   have:listed.getD i true=false:=by
    have e:listed.getD i false=listed.getD i true:=by simp[h.size,f]
    unfold sC at d;rw[e]at d;simpa using d
   have:=MU f h.size this;omega
  exact⟨g,h.done dG lz (Ct b h.size g)⟩
 |succ fuel l=>
  intro listed a w h m;refine⟨λg=>h.done dG lz (Ct b h.size g),λi hi=>h.step o b dG lz u k hi λr w' q=>l _ r w' q ?_⟩;obtain⟨f,d,p⟩:=(u9 h.size).1 hi
  have:listed.getD i true=false:=by
   have e:listed.getD i false=listed.getD i true:=by simp[h.size,f]
   unfold sC at d;rw[e]at d;simpa using d
  have:=MU f h.size this;omega
open Classical in
def fX (P:Program):Ak:=λcall n ops fr Z=>K0 P ops.toList Z λas b=>match tA P call n ops (ops.toList.zip as) 0 0 fr b with
 |some r=>if EO P ops/\afc P call ops (r.2.1++[r.2.2.2]) r.1/\UR P ops as (r.2.1++[r.2.2.2]) r.1 then .norm r.2.2.1 r.2.2.2 else .bad
 |none=>.bad
def ui (hm:P.follows .mixedOrders=θ):vO P (fX P):=by
 intro call n hc id ops fr Z ρ a w e H hf Y hd;unfold fX at e⊢;obtain⟨as,F,dG,I⟩:=M8 (P:=P) ops.toList Z;rw[I]at e;rw[I];have Gt:(ops.toList.zip as).map (·.1)=ops.toList:=List.map_fst_zip aaI;cases ht:tA P call n ops (ops.toList.zip as) 0 0 fr F with
 |none=>rw[ht]at e;exact absurd rfl e
 |some r=>
  obtain⟨fA,ch,Jl,nf⟩:=r;rw[ht]at e;dsimp only at e⊢
  split at e
  .rename_i u;rw[gq u];obtain⟨k,u,y⟩:=u;have lz:=Ht ht (by rw[Gt];exact k.s3);have l:=dG.after ρ w H;refine wp_region_any hm ?_;refine T0 (w0:=w) hc k dG lz u y _ _ _ _ ?_ ?_
   .have f:∀i,¬sC (Array.replicate ops.size φ) i:=λi hi=>by
     unfold sC at hi;simp only[Array.getD_eq_getD_getElem?,Array.getElem?_replicate]at hi
     split at hi<;>cases hi
    have N:∀(j:Nat) (b:Nat),as[j]?=Φ (Φ b)->ρ b=ν:=λj b e=>by
     have:=dG.range j b e;cases hh:ρ b with
     |none=>rfl
     |some x=>have:=H.fresh b x hh;omega
    obtain⟨v,X,W,T,n4,D,n6⟩:=yl dG lz ops.toList.length 0 J;obtain⟨C,L⟩:=gap dG lz X W T;have ZF:=lz.fst;rw[ZF]at C L;have BZ:eu P ops.toList 0=0:=rfl;rw[BZ]at D;have Q:∀q x,ρ q=Φ x->(mu fA nf v).m.g q=F.m.g q:=λq x G=>L q λj t _ _ _ _ S=>by rw[N j q S]at G;cases G
    exact⟨V,λi hi=>absurd hi (f i),λi hi=>absurd hi (f i),⟨fr,0,ρ,mu fA nf v,mu fA nf v,⟨λj o d t z=>absurd z (f j),λp _=>rfl⟩,λj o _ _=>⟨λhh=>absurd hh (f j),λhh=>absurd hh (Nat.not_lt_zero _)⟩,sw _,D,hf,(l.trans (br.draw l.wr _)).ue Q C,by rw[C];exact hI _,λj b _ e=>N j b e,
     ⟨rfl,λj t b x z=>absurd z (f j),λq x _ _=>rfl⟩⟩,Y,hd⟩
   .unfold unl;exact rx List.countP_le_length V
  .exact absurd rfl e
end
end
